/- Contracts of functions. -/
import Derived.Test.YtfecojefbnnknaaMxx17
import Derived.Test.YtfecojefbnnknaaMxx18
open List renaming drop_eq_getElem_cons → wEr, drop_one → wEc, getD_eq_getElem?_getD → wCu, getElem?_append_right → wCi, length_map → wEq, length_take → wCl, map_append → wE5, replicate → wCm, replicate_succ → wDa, set_append_right → wEs, take → wEt, take_of_length_le → wD1
namespace Go.Sep
set_option maxHeartbeats 16000000
open Go.Proofs
set_option linter.unusedSimpArgs false
set_option linter.unusedVariables false
set_option maxRecDepth 100000
open Nat renaming reduceAdd → qA, reduceMul → qB, reduceEqDiff → qC, reduceBEq → qD
open Int renaming reduceToNat → qE, reduceEq → qF, reduceLT → qG, reduceLE → qH
open List renaming getD_eq_getElem?_getD → gD
def m190:MFn:=⟨5,[.cell 2 2 true],kr [xb 1 0,xo 2 (.alloc [.nil,.nil])] (.seq (xr [xm 3 2 1,xo 4 (.call 200 [false,false] [.t 3,.c (.fn 240 [])]),xS 2 2 4]) (.ret))⟩
def m200:MFn:=⟨31,[.cell 4 2 true],kr [xb 2 0,xo 4 (.alloc [.nil,.nil])] (kr [xm 8 2 2,xc1 9 247 (.t 8),xo 5 (.alloc [.nil,.nil]),xS 2 5 9] (.seq (kr [xm 10 2 2,xc1 11 48 (.t 10),xN 12 11] (kF 12 [xm 13 2 5,xS 2 4 13])) (.seq (kr [xa 14 1 2,xl 15 14,xe 16 15,xI 17 0] (.blk 0 (.loop (kr [bT 18 .lss 17 16] (.seq (kX 18 0) (.seq (.blk 1 (kr [xv 19 17,xD 20 1 15 17,xl 21 20,xv 6 19,xv 7 21] (.dreg (.take 0 (xa 22 1 5) (.take 1 (xl 23 22) (.take 2 (xv 24 6) (.take 3 (xv 25 1) (.only 4 [] (xv 26 7) (.only 5 [3] (xo 27 (.calv (.t 25) [.t 26])) (.only 6 [0,1,2,3] (xD 28 1 23 24) (.only 7 [0,1,2,3] (xS 1 28 27) (.done)))))))))))) (xr [bI 29 .add 17 1,xv 17 29]))))))) (kR [xm 30 2 5,xS 2 4 30]))))⟩
def m240:MFn:=⟨29,[.t 2],kr [xo 2 (.mv (.c (.nil)))] (kr [xv 6 0,xc1 7 248 (.t 6),xv 3 7] (.seq (kr [xv 8 0,xc1 9 291 (.t 8),xe 10 9,xI 11 0] (.blk 0 (.loop (kr [bT 12 .lss 11 10] (.seq (kX 12 0) (.seq (.blk 1 (kr [xv 13 11,xD 14 1 9 11,xl 15 14,xv 4 13,xv 5 15] (xr [xv 16 3,xv 17 4,xv 18 0,xv 19 4,xD 20 5 18 19,xm 21 5 20,xv 22 5,xv 23 4,bI 24 .add 23 1,xc3 25 292 (.t 21) (.t 22) (.t 24),xD 26 5 16 17,xS 5 26 25]))) (xr [bI 27 .add 11 1,xv 11 27]))))))) (kR [xv 28 3,xv 2 28])))⟩
def m291:MFn:=⟨96,[.t 2],kr [xo 2 (.mv (.c (.nil)))] (.seq (kr [xv 13 0,xc2 14 67 (.t 13) (xi 3),xN 15 14] (kF 15 [xo 2 (.mv (.c (.nil)))])) (kr [xv 16 0,xe 17 16,xo 18 (.mkS [.nil] 24 (.t 17) (.t 17)),xv 3 18] (kr [xo 19 (.build [.bool false,.int .i64 0] [(0,1,.c (.bool true))]),xo 4 (.alloc [.bool false,.int .i64 0]),xS 2 4 19] (kr [xv 20 3,xm 21 2 4,xm 22 2 4,xm 23 2 4,xm 24 2 4,xo 25 (.mkSl [.bool false,.int .i64 0] 4 [(0,.t 21),(1,.t 22),(2,.t 23),(3,.t 24)]),xo 26 (.iad 1 (.t 20) (xi 0)),xS 1 26 25] (.seq (kr [xT 5] (.blk 0 (.loop (.seq (kr [xv 27 5] (kX 27 0)) (.blk 1 (kr [xF 5] (kr [xv 28 0,xe 29 28,xI 30 0] (.blk 2 (.loop (kr [bT 31 .lss 30 29] (.seq (kX 31 2) (.seq (.blk 3 (kr [xv 32 30,xD 33 5 28 30,xm 34 5 33,xo 7 (.alloc [xz,xz,xz,xz,xz]),xv 6 32,xS 5 7 34] (.seq (kr [xv 35 3,xv 36 6,xD 37 1 35 36,xl 38 37,xe 39 38,bI 40 .eql 39 0] (.cond 40 (.exit 3) (.skip))) (.seq (.dreg (.take 0 (xm 41 5 7) (.take 1 (xv 42 3) (.only 2 [] (xv 43 6) (.only 3 [1] (xD 44 1 42 43) (.only 4 [3,1] (xl 45 44) (.only 5 [0,4,3,1] (xc2 46 330 (.t 41) (.t 45)) (.only 6 [0,1] (xv 8 46) (.done))))))))) (kr [xv 47 0,xv 48 6,xc2 49 216 (.t 47) (.t 48),xe 50 49,xI 51 0] (.blk 4 (.loop (kr [bT 52 .lss 51 50] (.seq (kX 52 4) (.seq (.blk 5 (kr [xD 53 1 49 51,xl 54 53,xv 10 54] (.seq (kr [xv 55 3,xv 56 10,xD 57 1 55 56,xl 58 57,xe 59 58,bI 60 .eql 59 0] (.cond 60 (kr [xv 61 3,xv 62 10,xo 63 (.mkSl [.bool false,.int .i64 0] 0 []),xv 64 8,xA 65 2 16 63 64,xD 66 1 61 62,xS 1 66 65] (kr [xT 5] (.exit 5))) (.skip))) (kr [xv 67 3,xv 68 10,xD 69 1 67 68,xl 70 69,xv 71 8,xo 72 (.call 331 [true,false] [.t 70,.t 71]),xv 11 72] (xr [xv 73 5,xv 74 73,zv 75 11 74,xQ 76 74 75,xv 5 76]))))) (xr [bI 77 .add 51 1,xv 51 77]))))))))))) (xr [bI 78 .add 30 1,xv 30 78]))))))))))))) (.seq (kr [xv 79 3,xe 80 79,xI 81 0] (.blk 6 (.loop (kr [bT 82 .lss 81 80] (.seq (kX 82 6) (.seq (.blk 7 (kr [xv 83 81,xv 12 83] (kr [xv 84 3,xv 85 12,xD 86 1 84 85,xl 87 86,xe 88 87,bI 89 .eql 88 0] (.cond 89 (xr [xv 90 3,xv 91 12,xo 92 (.mkS [.bool false,.int .i64 0] 16 (xi 4) (xi 4)),xD 93 1 90 91,xS 1 93 92]) (.skip))))) (xr [bI 94 .add 81 1,xv 81 94]))))))) (kR [xv 95 3,xv 2 95])))))))⟩
structure Mid (l:List Ins) (S:KS) (a:Nat) (T:KS) (more:Bool):Prop where
 inv:qHw l T
 f:more=false→T=S∧∀b,b<a→EOk l S b
 t:more=true→mS T<mS S
structure Inn (l:List Ins) (S:KS) (a:Nat) (out:KV) (j:Nat) (U:KS) (more:Bool):Prop where
 inv:qHw l U
 f:more=false→U=S∧out=zS (l.getD a default) (kat S a)∧(∀b,b<a→EOk l S b)∧∀i,i<j→kat S ((yD l a).getD i 0).toNat≠[]∧vle out (kat S ((yD l a).getD i 0).toNat)
 t:more=true→mS U<mS S
theorem qU8 {l:List Ins} {S:KS} (h:qHw l S):Mid l S 0 S false:=⟨h,fun _=>⟨rfl,fun b hb=>by omega⟩,fun h=>by simp at h⟩
theorem qX1 {l:List Ins} {S T:KS} {a:Nat} {more:Bool} (h:Mid l S a T more) (hk:kat T a=[]):Mid l S (a+1) T more:=by
 refine ⟨h.inv,fun hm=>⟨(h.f hm).1,fun b hb=>?_⟩,h.t⟩
 by_cases hba:b<a
 ·exact (h.f hm).2 b hba
 ·have:b=a:=by omega
  subst this
  intro hs
  rw [(h.f hm).1] at hk
  exact absurd hk hs
theorem qUq {l:List Ins} {S T:KS} {a:Nat} {more:Bool} (h:Mid l S a T more):Inn l S a (zS (l.getD a default) (kat T a)) 0 T more :=
 ⟨h.inv,fun hm=>⟨(h.f hm).1,by rw [(h.f hm).1],(h.f hm).2,fun i hi=>by omega⟩,h.t⟩
theorem qXo {l:List Ins} {S T U:KS} {a j:Nat} {out:KV} {more:Bool} (hb:wB l 3=true) (ha:a<l.length) (hT:qHw l T) (hs:kat T a≠[]) (ho:out=zS (l.getD a default) (kat T a)) (h:Inn l S a out j U more) (hj:j<(yD l a).length) :
  Inn l S a out (j+1) (upd U out ((yD l a).getD j 0).toNat) (more||qE9 U out ((yD l a).getD j 0).toNat):=by
 have hm:=yL (yD l a) j 0 hj
 have hn:=xE hb ha _ hm
 have hn':((yD l a).getD j 0).toNat<U.length:=by rw [h.inv.len]; exact hn.2
 have hwo:WfV out:=ho▸qCw _ ((hT.wf a).resolve_left hs)
 have hw:=h.inv.wf ((yD l a).getD j 0).toNat
 have hmm:=qMp hn' hw hwo
 refine ⟨qRm h.inv hn.2 hwo fun V hV=>ho▸qWq hT ha (mJ hb ha) hs V hV _ hm,fun hf=>?_,fun ht=>?_⟩
 ·rw [Bool.or_eq_false_iff] at hf
  obtain ⟨h1,h2,h3,h4⟩:=h.f hf.1
  have he:=qMo hf.2
  refine ⟨he.trans h1,h2,h3,fun i hi=>?_⟩
  by_cases hij:i<j
  ·exact h4 i hij
  ·have:i=j:=by omega
   subst this
   have:=qRl hn' hw hwo
   rw [he,h1] at this
   exact this
 ·cases hd:qE9 U out ((yD l a).getD j 0).toNat with
  | true =>
   have:=hmm.2 hd
   cases hmo:more with
   | true=>have:=h.t hmo; omega
   | false=>rw [(h.f hmo).1] at this⊢; exact this
  | false =>
   rw [hd,Bool.or_false] at ht
   have:=h.t ht
   omega
theorem wA9 {l:List Ins} {S U:KS} {a:Nat} {out:KV} {more:Bool} (h:Inn l S a out (yD l a).length U more):Mid l S (a+1) U more:=by
 refine ⟨h.inv,fun hf=>?_,h.t⟩
 obtain ⟨h1,h2,h3,h4⟩:=h.f hf
 refine ⟨h1,fun b hb=>?_⟩
 by_cases hba:b<a
 ·exact h3 b hba
 ·have:b=a:=by omega
  subst this
  intro hs n hn
  obtain ⟨i,hi,e⟩:=List.getElem_of_mem hn
  have:=h4 i hi
  have e':(yD l b).getD i 0=n:=by rw [←e]; simp [wCu,hi]
  rw [e',h2] at this
  exact this
theorem qZp {l:List Ins} {S T:KS} {more:Bool} (h:Mid l S l.length T more):(more=false→∀a,a<l.length→EOk l T a)∧2*mS T+(if more then 1 else 0)<2*mS S+1:=by
 cases more
 ·obtain ⟨h1,h2⟩:=h.f rfl
  rw [h1]
  exact ⟨fun _=>h2,by simp⟩
 ·have:=h.t rfl
  exact ⟨fun h=>by simp at h,by simp; omega⟩
def fG (S:KS) (i:Nat):KS:=aC (S.take i)++S.drop i
theorem qLt (S:KS) (i:Nat) (h:i≤S.length):(fG S i).length=S.length:=by
 unfold fG aC
 rw [List.length_append,wEq,wCl,List.length_drop]
 omega
theorem qQk (S:KS):fG S 0=S:=by simp [fG,aC]
theorem qUv (S:KS):fG S S.length=aC S:=by simp [fG]
theorem qQm (S:KS) (i:Nat) (h:i<S.length):(fG S i).getD i []=kat S i:=by
 have hl:(aC (S.take i)).length=i:=by unfold aC; rw [wEq,wCl]; omega
 unfold fG kat
 rw [wCu,wCi (by omega),hl]
 simp [wCu]
theorem qQl (S:KS) (i:Nat) (h:i<S.length):fG S (i+1)=(fG S i).set i (if kat S i=[] then qSa else kat S i):=by
 have hl:(aC (S.take i)).length=i:=by unfold aC; rw [wEq,wCl]; omega
 have hd:S.drop i=kat S i::S.drop (i+1):=by
  rw [wEr h]
  simp [kat,wCu,h]
 have ht:S.take (i+1)=S.take i++[kat S i]:=by
  rw [bG S [] i h]
 unfold fG
 rw [ht,hd]
 have hm:aC (S.take i++[kat S i])=aC (S.take i)++[if kat S i=[] then qSa else kat S i]:=by
  unfold aC
  rw [wE5]
  rfl
 rw [hm,wEs _ _ (by omega),hl]
 simp
theorem qU0 (n:Nat):bO ((wCm n [AV.nil]).set 0 [.sl .own 2 (yP qJm)]) (yB .own (tC n)):=by
 have hr :∀n,bO (wCm n [AV.nil]) (yB .own (wCm n [])):=by
  intro n
  induction n with
  | zero=>simp [yB,bO]
  | succ n ih =>
   rw [wDa,wDa]
   simp only [yB,List.map_cons] at ih⊢
   rw [aL]
   exact ⟨by simp [wL,wM,yP],ih⟩
 unfold tC
 cases n with
 | zero=>simp [yB,bO]
 | succ n =>
  rw [wDa,wDa]
  simp only [List.set_cons_zero,yB,List.map_cons]
  rw [aL]
  exact ⟨by simp [wL,wM],hr n⟩
theorem qXd (S:KS) (n:Nat) (h:n<S.length):(yB .own S).set n [.sl .own 2 (yP (kat S n))]=yB .own S:=by
 have e:=qBx S n [] h
 rw [cQ]
 exact congrArg _ e
theorem wA7 (S:KS) (out:KV) (n:Nat):(yB .own S).set n [.sl .own 2 (yP (if kat S n=[] then out else vJ (kat S n) out))]=yB .own (upd S out n):=by
 rw [cQ]
 rfl
theorem qGp (l:List Ins) (Kx:KS) (hl:l.length<2^47) (hK:wB l 3=true→qE8 l Kx):wD Try.prog num 291 [.sl .bw 5 (yX l)] [] (.sl .own 1 (yB .own (iI l Kx))):=by
 refine EN m291 Try.func95 ?_
 unfold m291
 simp only [go_sem,seval]
 repeat refine K ?_
 refine CA [] (zO l 3 (by omega) (by omega) (by omega)) ?_
 try simp only [go_sem,seval]
 repeat refine K ?_
 cases hb:wB l 3
 ·try simp only [go_sem,seval,hb]
  repeat refine K ?_
  refine ⟨_,Sub.refl _,wG ?_⟩; simp [-wEc]
  all_goals (try simp [iI,hb,yB])
 have hK':=hK hb
 obtain ⟨hl1,hl2⟩:=cX hb
 have hgs0 :∀r,((wCm l.length [AV.nil]).set 0 r).getD 0 []=r:=fun r=>jJ _ _ _ _ (by simp; omega)
 have hg0:(wCm l.length [AV.nil]).getD 0 []=[AV.nil]:=by
  cases h:l.length with
  | zero=>omega
  | succ n=>rfl
 have hrl:(wCm l.length [AV.nil]).length=l.length:=by simp
 have d0:decide (((0:Nat):Int)=0)=true:=by decide
 have d4:decide (((4:Nat):Int)=0)=false:=by decide
 try simp only [go_sem,seval,hb,hg0,hrl]
 repeat refine K ?_
 refine wJ (ι:=KS×Bool) (fun q=>.mk [(0,.sl .bw 5 (yX l)),(3,.ns 10 0 l.length),(5,.bool q.2)] [(10,1,yB .own q.1)] 11) (fun q=>qHw l q.1∧(q.2=false→∀a,a<l.length→EOk l q.1 a)) (fun q=>2*mS q.1+(if q.2 then 1 else 0)) (tC l.length,true) ⟨qGg (by omega),by simp⟩ ?_ ?_
 ·refine Sub.trans (Sub.foldAt 10 0 12 rfl (by simp [-gD]<;>omega) rfl (by decide) (by decide) rfl (by simp<;>omega)) ?_
  simp only [fS,fS3,qA,qC]
  refine Sub.shape [] id (by omega) ?_ ?_ ?_ ?_<;>simp [qL]
  all_goals (exact .inr (qU0 _))
 ·rintro ⟨S,more⟩ ⟨hI,hE⟩
  simp only at hI hE
  have hSl:=hI.len
  cases more
  ·have hS:S=Kx:=qQb ⟨hI,hE rfl⟩ hK'
   subst hS
   simp only [go_sem,seval]
   repeat refine K ?_
   refine wJ (ι:=Nat) (fun i=>.mk [(3,.ns 10 0 l.length),(80,.int .i64 l.length),(81,.int .i64 i)] [(10,1,yB .own (fG S i))] 11) (fun i=>i≤l.length) (fun i=>l.length-i) 0 (by simp) ?_ ?_
   ·have e0:=qQk S
    refine Sub.shape [] id (by omega) ?_ ?_ ?_ ?_<;>simp [qL]
    all_goals (rw [e0])
    all_goals (exact .inl rfl)
   ·intro i hi
    have hfl:=qLt S i (by omega)
    simp only [go_sem,seval]
    refine qX (fun hc=>?_) (fun hc=>?_)
    ·simp only [decide_eq_true_eq] at hc
     have hi':i<l.length:=by omega
     have hgd:=qQm S i (by omega)
     have hst:=qQl S i (by omega)
     have hgk:(yB .own (fG S i)).getD i []=[.sl .own 2 (yP (kat S i))]:=by rw [fO _ _ _ (by omega),hgd]
     have hgs :∀r,((yB .own (fG S i)).set i r).getD i []=r:=fun r=>jJ _ _ _ _ (by rw [gJ]; omega)
     by_cases hk:kat S i=[]
     ·rw [if_pos hk] at hst
      rw [hk] at hgk
      have hz:(yP ([]:KV)).length=0:=rfl
      simp only [go_sem,seval,hgk,hgs,hfl,hSl,hz,d0,qV (i:=i) (by omega)]
      repeat refine K ?_
      refine qT (i+1) ?_ hi' (by omega)
      have hn4:qSa.length=4:=rfl
      rw [qTz]
      refine Sub.trans (Sub.foldAt 10 0 12 rfl (by simp [-gD]<;>omega) rfl (by decide) (by decide) rfl (by simp<;>omega)) ?_
      simp only [fS,fS3,qA,qC,hn4]
      rw [hst]
      refine Sub.shape [] id (by omega) ?_ ?_ ?_ ?_<;>simp [qL]
      all_goals (rw [cQ])
      all_goals (exact .inl rfl)
     ·rw [if_neg hk] at hst
      have hw4:=((hI.wf i).resolve_left hk).1
      have hmt:wEt 4 (kat S i)=kat S i:=wD1 (by omega)
      have hset:=cQ .own (fG S i) i (kat S i)
      generalize kat S i=v at hgk hst hw4 hmt hset
      simp only [go_sem,seval,hgk,hgs,hfl,hSl,hw4,hmt,d4,qV (i:=i) (by omega)]
      repeat refine K ?_
      refine qT (i+1) ?_ hi' (by omega)
      refine Sub.trans (Sub.foldAt 10 0 11 rfl (by simp [-gD]<;>omega) rfl (by decide) (by decide) rfl (by simp<;>omega)) ?_
      simp only [fS,fS3,qA,qC,hw4,hmt]
      rw [hst]
      refine Sub.shape [] id (by omega) ?_ ?_ ?_ ?_<;>simp [qL]
      all_goals (rw [hset])
      all_goals (exact .inl rfl)
    ·simp only [decide_eq_false_iff_not] at hc
     have he:i=l.length:=by omega
     subst he
     have hfe:fG S l.length=aC S:=by rw [←hSl]; exact qUv S
     simp only [go_sem,seval,hfe]
     repeat refine K ?_
     refine ⟨_,Sub.refl _,wG ?_⟩; simp [-wEc]
     all_goals (try simp [iI,hb,fP,hSl])
  ·simp only [go_sem,seval]
   repeat refine K ?_
   refine wJ (ι:=Nat×KS×Bool) (fun q=>.mk [(0,.sl .bw 5 (yX l)),(3,.ns 10 0 l.length),(5,.bool q.2.2),(28,.sl .bw 5 (yX l)),(29,.int .i64 l.length),(30,.int .i64 q.1)] [(10,1,yB .own q.2.1)] 11) (fun q=>q.1≤l.length∧Mid l S q.1 q.2.1 q.2.2) (fun q=>l.length-q.1) (0,S,false) ⟨Nat.zero_le _,qU8 hI⟩ ?_ ?_
   ·refine Sub.shape [] id (by omega) ?_ ?_ ?_ ?_<;>simp [qL]
   ·rintro ⟨a,T,more⟩ ⟨ha,hM⟩
    simp only at ha hM
    have hTl:=hM.inv.len
    simp only [go_sem,seval]
    refine qX (fun hc=>?_) (fun hc=>?_)
    ·simp only [decide_eq_true_eq] at hc
     have ha':a<l.length:=by omega
     have hgi:=uS l a ha'
     have hgk:(yB .own T).getD a []=[.sl .own 2 (yP (kat T a))]:=fO _ _ _ (by omega)
     have hgs :∀r,((yB .own T).set a r).getD a []=r:=fun r=>jJ _ _ _ _ (by rw [gJ]; omega)
     have hsm:=qXd T a (by omega)
     by_cases hk:kat T a=[]
     ·rw [hk] at hgk hsm
      have hz:(yP ([]:KV)).length=0:=rfl
      have hms:=qX1 hM hk
      simp only [go_sem,seval,hgi,hgk,hgs,hTl,hz,d0,qV (i:=a) (by omega)]
      repeat refine K ?_
      refine qT (a+1,T,more) ?_ ⟨ha',hms⟩ (by simp only; omega)
      refine Sub.trans (Sub.foldAt 10 0 12 rfl (by simp [-gD]<;>omega) rfl (by decide) (by decide) rfl (by simp<;>omega)) ?_
      simp only [fS,fS3,qA,qC]
      refine Sub.shape [] id (by omega) ?_ ?_ ?_ ?_<;>simp [qL]
      all_goals (exact .inl hsm)
     ·have hwn:=(hM.inv.wf a).resolve_left hk
      have hk4:=hwn.1
      have hwo:=qCw (l.getD a default) hwn
      have hbe:=qId (l.getD a default) (kat T a) (mJ hb ha') hk4
      have hIs:=qUq hM
      have hIst:=fun U mo j=>qXo (S:=S) (T:=T) (U:=U) (j:=j) (more:=mo) hb ha' hM.inv hk rfl
      have hIe:=fun U mo=>wA9 (l:=l) (S:=S) (U:=U) (a:=a) (out:=zS (l.getD a default) (kat T a)) (more:=mo)
      generalize zS (l.getD a default) (kat T a)=out at hwo hbe hIs hIst hIe
      have hmt:wEt 4 (kat T a)=kat T a:=wD1 (by omega)
      generalize kat T a=v at hgk hsm hk4 hbe hmt
      have hol:=hwo.1
      have hot:wEt 4 out=out:=wD1 (by omega)
      simp only [go_sem,seval,hgi,hgk,hgs,hTl,hk4,hmt,d4]
      repeat refine K ?_
      refine DA [] (hbe) ?_
      try simp only [go_sem,seval]
      repeat refine K ?_
      try simp only [go_sem,seval,hk4,hmt,hol]
      repeat refine K ?_
      refine CA [] (lK l a hb ha') ?_
      try simp only [go_sem,seval]
      repeat refine K ?_
      try simp only [go_sem,seval,hk4,hmt,hol]
      repeat refine K ?_
      have hin:=xE hb ha'
      refine wJ (ι:=Nat×KS×Bool) (fun q=>.mk [(0,.sl .bw 5 (yX l)),(3,.ns 10 0 l.length),(5,.bool q.2.2),(8,.ns 11 0 4),(28,.sl .bw 5 (yX l)),(29,.int .i64 l.length),(30,.int .i64 a),(49,.ns 12 0 (yD l a).length),(50,.int .i64 (yD l a).length),(51,.int .i64 q.1)] [(10,1,yB .own q.2.1),(11,2,yP out),(12,1,wR (yD l a))] 13) (fun q=>q.1≤(yD l a).length∧Inn l S a out q.1 q.2.1 q.2.2) (fun q=>(yD l a).length-q.1) (0,T,more) ⟨Nat.zero_le _,hIs⟩ ?_ ?_
      ·refine Sub.trans (Sub.foldAt 10 0 12 rfl (by simp [-gD]<;>omega) rfl (by decide) (by decide) rfl (by simp<;>omega)) ?_
       simp only [fS,fS3,qA,qC,hk4,hmt]
       refine Sub.shape [] (fun m=>if m=11 then 13 else if m=12 then 14 else m) (by omega) ?_ ?_ ?_ ?_<;>simp [qL]
       all_goals (exact .inl hsm)
      ·rintro ⟨j,U,mo⟩ ⟨hj,hI2⟩
       simp only at hj hI2
       have hUl:=hI2.inv.len
       simp only [go_sem,seval]
       refine qX (fun hc2=>?_) (fun hc2=>?_)
       ·simp only [decide_eq_true_eq] at hc2
        have hj':j<(yD l a).length:=by omega
        have hgn:=qJ (yD l a) j hj'
        have hmn:=hin _ (yL (yD l a) j 0 hj')
        have hsp':=hIst U mo j hI2 hj'
        generalize (yD l a).getD j 0=w at hgn hmn hsp'
        obtain ⟨m,rfl⟩ :∃m:Nat,w=(m:Int):=⟨w.toNat,by omega⟩
        simp only [Int.toNat_natCast] at hmn hsp'
        have hnl:(yD l a).length≤2:=by
         unfold yD
         simp only
         repeat' split
         all_goals simp
        have hgk2:(yB .own U).getD m []=[.sl .own 2 (yP (kat U m))]:=fO _ _ _ (by omega)
        have hgs2 :∀r,((yB .own U).set m r).getD m []=r:=fun r=>jJ _ _ _ _ (by rw [gJ]; omega)
        have hku:=wA7 U out m
        by_cases hkm:kat U m=[]
        ·have hd:qE9 U out m=true:=by unfold qE9; rw [decide_eq_true hkm]; rfl
         rw [hd,Bool.or_true] at hsp'
         rw [if_pos hkm] at hku
         rw [hkm] at hgk2
         have hz:(yP ([]:KV)).length=0:=rfl
         simp only [go_sem,seval,hgn,hgk2,hgs2,hUl,hz,d0,hol,hot,qV (i:=j) (by omega)]
         repeat refine K ?_
         refine qT (j+1,upd U out m,true) ?_ ⟨hj',hsp'⟩ (by simp only; omega)
         refine Sub.trans (Sub.foldAt 10 0 15 rfl (by simp [-gD]<;>omega) rfl (by decide) (by decide) rfl (by simp<;>omega)) ?_
         simp only [fS,fS3,qA,qC,hol,hot]
         refine Sub.shape [] id (by omega) ?_ ?_ ?_ ?_<;>simp [qL]
         all_goals (exact .inl hku)
        ·have hwm:=(hI2.inv.wf m).resolve_left hkm
         have hm4:=hwm.1
         have hmt2:wEt 4 (kat U m)=kat U m:=wD1 (by omega)
         have hud:qE9 U out m=cP (kat U m) out:=by unfold qE9; rw [decide_eq_false hkm]; rfl
         rw [hud] at hsp'
         rw [if_neg hkm] at hku
         have hmml:=bV (kat U m) out
         rw [hm4] at hmml
         have hmmt:wEt 4 (vJ (kat U m) out)=vJ (kat U m) out:=wD1 (by omega)
         have hme:=qO6 (kat U m) out (by omega) (by omega)
         rw [hm4] at hme
         generalize kat U m=u at hgk2 hm4 hmt2 hud hsp' hku hmml hmmt hme
         simp only [go_sem,seval,hgn,hgk2,hgs2,hUl,hm4,hmt2,d4,hol,hot]
         repeat refine K ?_
         refine CA [(0,13)] (hme) ?_
         try simp only [go_sem,seval]
         repeat refine K ?_
         cases mo
         ·try simp only [go_sem,seval,hm4,hmml,hmmt,hol,hot,qV (i:=j) (by omega)]
          repeat refine K ?_
          rw [Bool.false_or] at hsp'
          refine qT (j+1,upd U out m,cP u out) ?_ ⟨hj',hsp'⟩ (by simp only; omega)
          refine Sub.trans (Sub.foldAt 10 0 13 rfl (by simp [-gD]<;>omega) rfl (by decide) (by decide) rfl (by simp<;>omega)) ?_
          simp only [fS,fS3,qA,qC,hmml,hmmt]
          refine Sub.shape [] id (by omega) ?_ ?_ ?_ ?_<;>simp [qL]
          all_goals (exact .inl hku)
         ·try simp only [go_sem,seval,hm4,hmml,hmmt,hol,hot,qV (i:=j) (by omega)]
          repeat refine K ?_
          rw [Bool.true_or] at hsp'
          refine qT (j+1,upd U out m,true) ?_ ⟨hj',hsp'⟩ (by simp only; omega)
          refine Sub.trans (Sub.foldAt 10 0 13 rfl (by simp [-gD]<;>omega) rfl (by decide) (by decide) rfl (by simp<;>omega)) ?_
          simp only [fS,fS3,qA,qC,hmml,hmmt]
          refine Sub.shape [] id (by omega) ?_ ?_ ?_ ?_<;>simp [qL]
          all_goals (exact .inl hku)
       ·simp only [decide_eq_false_iff_not] at hc2
        have he:j=(yD l a).length:=by omega
        subst he
        have hMe:=hIe U mo hI2
        simp only [go_sem,seval,hUl,qV (i:=a) (by omega)]
        repeat refine K ?_
        refine qT (a+1,U,mo) ?_ ⟨ha',hMe⟩ (by simp only; omega)
        refine Sub.shape [] id (by omega) ?_ ?_ ?_ ?_<;>simp [qL]
    ·simp only [decide_eq_false_iff_not] at hc
     have he:a=l.length:=by omega
     subst he
     have hme:=qZp hM
     simp only [go_sem,seval]
     repeat refine K ?_
     refine qT (T,more) ?_ ⟨hM.inv,hme.1⟩ (by simpa using hme.2)
     refine Sub.shape [] id (by omega) ?_ ?_ ?_ ?_<;>simp [qL]
open Classical in
noncomputable def pH (l:List Ins):KS:=if h:wB l 3=true then Classical.choose (qGb h) else []
theorem eG (l:List Ins) (h:wB l 3=true):qE8 l (pH l):=by
 unfold pH
 rw [dif_pos h]
 exact Classical.choose_spec (qGb h)
noncomputable def aG (l:List Ins):KS:=iI l (pH l)
theorem qGi (l:List Ins):(aG l).length≤l.length:=by
 unfold aG iI
 cases hb:wB l 3
 ·simp
 ·rw [if_pos rfl,fP,(eG l hb).inv.len]
  exact Nat.le_refl _
theorem qQe (l:List Ins) (i:Nat) (h:i<(aG l).length):((aG l).getD i []).length=4:=by
 unfold aG iI at h⊢
 cases hb:wB l 3
 ·rw [hb] at h
  simp at h
 ·rw [hb] at h
  rw [if_pos rfl] at h⊢
  rw [fP] at h
  rw [tJ _ _ h]
  split
  ·rfl
  ·rename_i hk
   exact (((eG l hb).inv.wf i).resolve_left hk).1
def pP (l:List Ins) (K:KS):Nat→List Ins
 | 0=>l
 | i+1=>(pP l K i).set i (zV (l.getD i default) (K.getD i []) ((i+1:Nat):Int))
theorem xJ (l:List Ins) (K:KS) :∀i,(pP l K i).length=l.length
 | 0=>rfl
 | i+1=>by rw [pP,List.length_set,xJ l K i]
theorem qCk (l:List Ins) (i:Nat) (y:Ins):(yX l).set i [.int .i64 y.op,.int .i64 y.r,.int .i64 y.a,.int .i64 y.b,.int .i64 y.n]=yX (l.set i y):=by simp [yX,dL]
noncomputable def eN (l:List Ins):List Ins:=pP l (aG l) (aG l).length
theorem qEe (l:List Ins) (hl:40*l.length≤2^47):wD Try.prog num 240 [.sl .bw 5 (yX l)] [] (.sl .own 5 (yX (eN l))):=by
 have hkl:=qGi l
 have hka:=qQe l
 have hkn:=qGp l (pH l) (by omega) (eG l)
 unfold eN
 change wD Try.prog num 291 [.sl .bw 5 (yX l)] [] (.sl .own 1 (yB .own (aG l))) at hkn
 generalize aG l=Kw at hkl hka hkn⊢
 refine EN m240 Try.func65 ?_
 unfold m240
 simp only [go_sem,seval]
 repeat refine K ?_
 refine CA [] (cU l hl) ?_
 try simp only [go_sem,seval]
 repeat refine K ?_
 try simp only [go_sem,seval]
 repeat refine K ?_
 refine CA [] (hkn) ?_
 try simp only [go_sem,seval]
 repeat refine K ?_
 try simp only [go_sem,seval]
 repeat refine K ?_
 refine wJ (ι:=Nat) (fun i=>.mk [(0,.sl .bw 5 (yX l)),(3,.ns 10 0 l.length),(9,.ns 11 0 Kw.length),(10,.int .i64 Kw.length),(11,.int .i64 i)] [(10,5,yX (pP l Kw i)),(11,1,yB .own Kw)] 12) (fun i=>i≤Kw.length) (fun i=>Kw.length-i) 0 (by simp) ?_ ?_
 ·refine Sub.shape [] id (by omega) ?_ ?_ ?_ ?_<;>simp [qL]
  all_goals (exact .inl rfl)
 ·intro i hi
  simp only [go_sem,seval]
  refine qX (fun hc=>?_) (fun hc=>?_)
  ·simp only [decide_eq_true_eq] at hc
   have hi':i<Kw.length:=by omega
   have h4:=hka i hi'
   have hg:=uS l i (by omega)
   have hgf:=uS (pP l Kw i) i (by rw [xJ]; omega)
   have hlf:=xJ l Kw i
   have hgk:=fO .own Kw i hi'
   have hst:pP l Kw (i+1)=(pP l Kw i).set i (zV (l.getD i default) (Kw.getD i []) ((i+1:Nat):Int)):=rfl
   have hsk:=qBx (yB .own Kw) i [] (by rw [gJ]; exact hi')
   rw [hgk] at hsk
   generalize Kw.getD i []=v at h4 hgk hst hsk
   have hmt:wEt 4 v=v:=wD1 (by omega)
   simp only [go_sem,seval,hg,hgf,hgk,hlf,h4,hmt,qV (i:=i) (by omega)]
   repeat refine K ?_
   refine CA [] (qGq (l.getD i default) v ((i+1:Nat):Int) (by omega)) ?_
   try simp only [go_sem,seval]
   repeat refine K ?_
   generalize zV (l.getD i default) v ((i+1:Nat):Int)=y at hst
   try simp only [go_sem,seval,hgf,hlf,qCk,qV (i:=i) (by omega)]
   repeat refine K ?_
   refine qT (i+1) ?_ hi' (by omega)
   refine Sub.trans (Sub.foldAt 11 0 12 rfl (by simp [-gD]<;>omega) rfl (by decide) (by decide) rfl (by simp<;>omega)) ?_
   simp only [fS,fS3,qA,qC,h4,hmt]
   rw [hst]
   refine Sub.shape [] id (by omega) ?_ ?_ ?_ ?_<;>simp [qL]
   all_goals (exact .inl hsk)
  ·simp only [decide_eq_false_iff_not] at hc
   have he:i=Kw.length:=by omega
   subst he
   have hfe:=xJ l Kw Kw.length
   simp only [go_sem,seval]
   repeat refine K ?_
   refine ⟨_,Sub.refl _,wG ?_⟩; simp [-wEc]
   all_goals (try simp [hfe])
theorem nJ (l:List Ins):(eN l).length=l.length:=xJ l _ _
noncomputable def jA (p:wK):wK:=if wY p then ⟨p.caps,p.bods.map eN⟩ else p
def qAp (g:List Ins→List Ins) (l:List (List Ins)) (i:Nat):List (List Ins):=(l.take i).map g++l.drop i
theorem qDi (g:List Ins→List Ins) (l:List (List Ins)) (i:Nat) (h:i≤l.length):(qAp g l i).length=l.length:=by
 unfold qAp
 rw [List.length_append,wEq,wCl,List.length_drop]
 omega
theorem qUc (g:List Ins→List Ins) (l:List (List Ins)):qAp g l 0=l:=by simp [qAp]
theorem qX6 (g:List Ins→List Ins) (l:List (List Ins)):qAp g l l.length=l.map g:=by simp [qAp]
theorem qUe (g:List Ins→List Ins) (l:List (List Ins)) (i:Nat) (h:i<l.length):(qAp g l i).getD i []=l.getD i []:=by
 have hl:((l.take i).map g).length=i:=by rw [wEq,wCl]; omega
 unfold qAp
 rw [wCu,wCi (by omega),hl]
 simp [wCu]
theorem qUd (g:List Ins→List Ins) (l:List (List Ins)) (i:Nat) (h:i<l.length):qAp g l (i+1)=(qAp g l i).set i (g (l.getD i [])):=by
 have hl:((l.take i).map g).length=i:=by rw [wEq,wCl]; omega
 have hd:l.drop i=l.getD i []::l.drop (i+1):=by
  rw [wEr h]
  simp [wCu,h]
 unfold qAp
 rw [bG l [] i h,wE5,hd,wEs _ _ (by omega),hl]
 simp
theorem qVh (m:Mode) (l:List (List Ins)) (i:Nat) (b:List Ins):(yR m l).set i [.sl m 5 (yX b)]=yR m (l.set i b):=by simp [yR]
noncomputable def qDr (g:List Ins→List Ins) (p:wK):wK:=if wY p then ⟨p.caps,p.bods.map g⟩ else p
theorem wBe {P:Program} {num:Nat→Nat} {fin:AS→Prop} (i:Nat) (deps:List Nat) (dst:Option Nat) (y:Arg) (xs:List Arg) (tr:vV) (pend:List (Nat×List Nat)) (k:List It) (t:List (Nat×AV)) (h:wU) (nx:Nat) :
  vc P num fin (.draw (.only i deps ⟨dst,.calv y xs,none⟩ tr) pend::k) (.mk t h nx)=qK4 P num fin (.calv y xs) (yK deps pend) dst tr k t h nx:=by
 rw [vc]
 rfl
theorem pR (p:wK) (hp:eZ p) (F:Nat) (g:List Ins→List Ins) (hF :∀b∈p.bods,wD Try.prog num F [.sl .bw 5 (yX b)] [] (.sl .own 5 (yX (g b)))) :
  wD Try.prog num 200 [.agg (bH .bw p),.fn F []] [] (.agg (bH .own (qDr g p))):=by
 have hp':=hp
 obtain ⟨h1,h2,h3⟩:=hp
 have lp:=qOl p hp'
 have po:=lJ p (by omega) (by omega) (fun b hb=>by have:=h3 b hb; omega)
 refine EN m200 Try.func25 ?_
 unfold m200
 simp only [go_sem,seval]
 repeat refine K ?_
 refine CA [] (lp) ?_
 try simp only [go_sem,seval]
 repeat refine K ?_
 try simp only [go_sem,seval]
 repeat refine K ?_
 refine CA [] (po) ?_
 try simp only [go_sem,seval]
 repeat refine K ?_
 cases hpo:wY p
 ·have hf:qDr g p=p:=by simp [qDr,hpo]
  rw [hf]
  try simp only [go_sem,seval]
  repeat refine K ?_
  refine ⟨_,Sub.refl _,wG ?_⟩; simp [-wEc]
 have hf:qDr g p=⟨p.caps,p.bods.map g⟩:=by simp [qDr,hpo]
 rw [hf]
 try simp only [go_sem,seval]
 repeat refine K ?_
 refine wJ (ι:=Nat) (fun i=>.mk [(1,.fn F []),(4,.ptr 11 0 0),(5,.ptr 14 0 0),(15,.sl .bw 1 (yR .bw p.bods)),(16,.int .i64 p.bods.length),(17,.int .i64 i)] [(11,2,[[.nil,.nil]]),(14,2,[[.sl .own 1 (wR p.caps),.sl .own 1 (yR .own (qAp g p.bods i))]])] 15) (fun i=>i≤p.bods.length) (fun i=>p.bods.length-i) 0 (by simp) ?_ ?_
 ·refine Sub.trans (Sub.fold1 14 0 12 rfl (by simp [-gD]<;>omega) rfl (by decide) (by decide) rfl) ?_
  simp only [fS,fS3,qA,qC]
  refine Sub.trans (Sub.fold1 14 1 13 rfl (by simp [-gD]<;>omega) rfl (by decide) (by decide) rfl) ?_
  simp only [fS,fS3,qA,qC]
  have e0:=qUc g p.bods
  refine Sub.shape [] id (by omega) ?_ ?_ ?_ ?_<;>simp [qL]
  all_goals (rw [e0])
  all_goals (exact .inl rfl)
 ·rintro i hi
  have hml:=qDi g p.bods i hi
  simp only [go_sem,seval]
  refine qX (fun hc=>?_) (fun hc=>?_)
  ·simp only [decide_eq_true_eq] at hc
   have hlt:i<p.bods.length:=by omega
   have hgb:=wF .bw p.bods i hlt
   have hst:=qUd g p.bods i hlt
   have fb:=hF _ (yL p.bods i [] hlt)
   have hgs:(yR .own (qAp g p.bods i)).getD i []=[.sl .own 5 (yX (p.bods.getD i []))]:=by rw [wF .own _ i (by omega),qUe g p.bods i hlt]
   generalize p.bods.getD i []=b at hgb hst fb hgs
   simp only [go_sem,seval,hgb,hml,wBe]
   repeat refine K ?_
   refine DAV [] (fb) ?_
   try simp only [go_sem,seval]
   repeat refine K ?_
   generalize g b=fbb at hst
   try simp only [go_sem,seval,hml,hgs,qV (i:=i) (by omega)]
   repeat refine K ?_
   refine qT (i+1) ?_ hlt (by omega)
   have hml2:=qDi g p.bods (i+1) hlt
   have hbs:=qVh .own (qAp g p.bods i) i fbb
   rw [←hst] at hbs
   refine Sub.trans (Sub.foldAt 15 0 16 rfl (by simp [-gD]<;>omega) rfl (by decide) (by decide) rfl (by simp<;>omega)) ?_
   simp only [fS,fS3,qA,qC,hbs]
   refine Sub.trans (Sub.fold1 14 1 15 rfl (by simp [-gD]<;>omega) rfl (by decide) (by decide) rfl) ?_
   simp only [fS,fS3,qA,qC,hbs,hml2]
   refine Sub.shape [] id (by omega) ?_ ?_ ?_ ?_<;>simp [qL]
  ·simp only [decide_eq_false_iff_not] at hc
   have he:i=p.bods.length:=by omega
   subst he
   simp only [go_sem,seval,qX6]
   repeat refine K ?_
   refine ⟨_,Sub.refl _,wG ?_⟩; simp [-wEc]
theorem qEd (p:wK) (hp:eZ p):wD Try.prog num 190 [.agg (bH .bw p)] [] (.agg (bH .own (jA p))):=by
 have eb:=pR p hp 240 eN (fun b hb=>qEe b (by have:=hp.body b hb; omega))
 have he:qDr eN p=jA p:=rfl
 rw [he] at eb
 refine EN m190 Try.func41 ?_
 unfold m190
 simp only [go_sem,seval]
 repeat refine K ?_
 refine CA [] (eb) ?_
 try simp only [go_sem,seval]
 repeat refine K ?_
 try simp only [go_sem,seval]
 repeat refine K ?_
 refine ⟨_,Sub.refl _,wG ?_⟩; simp [-wEc]
end Go.Sep
