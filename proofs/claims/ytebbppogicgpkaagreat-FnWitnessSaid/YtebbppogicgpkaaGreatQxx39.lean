/- Contracts of functions. -/
import Derived.Test.YtebbppogicgpkaaGreatQxx36
import Derived.Test.YtebbppogicgpkaaGreatQxx38
namespace Go.Sep
set_option maxHeartbeats 16000000
open Go.Proofs
set_option linter.unusedSimpArgs false
set_option linter.unusedVariables false
set_option maxRecDepth 100000
open List renaming getD_eq_getElem?_getD → gD
def m439:MFn:=⟨18,[.cell 2 2 true,.t 3],kr [xo 2 (.alloc [.nil,.nil]),xo 3 (.mv (.c (.nil)))] (kr [xv 6 0,xo 7 (.call 37 [true] [.t 6]),xv 4 7] (kr [xv 8 4,xo 9 (.call 55 [true] [.t 8]),xo 5 (.alloc [.nil,.nil]),xS 2 5 9] (.seq (.dreg (.take 0 (xm 10 2 5) (.take 1 (xv 11 4) (.take 2 (xa 12 1 5) (.take 3 (xl 13 12) (.take 4 (xe 14 13) (.only 5 [] (xv 15 0) (.only 6 [] (xc3 16 213 (.t 15) (xi 60) (xi 160)) (.only 7 [1,4,3,2] (xo 17 (.call 463 [true,false,false] [.t 11,.t 14,.t 16])) (.only 8 [0,7,1,4,3,2] (xS 2 2 10) (.only 9 [0,1,2,3,4] (xv 3 17) (.done)))))))))))) (.ret))))⟩
def m463:MFn:=⟨41,[.t 6],kr [xo 6 (.mv (.c (.nil)))] (kr [xo 12 (.mkSl [xz,xz] 0 []),xv 7 12] (kr [xv 13 0,xv 14 2,bI 15 .add 14 1,xo 16 (.call 39 [true,false] [.t 13,.t 15]),xv 8 16] (.seq (kr [xI 9 0] (.blk 0 (.loop (.seq (kr [xv 17 9,xv 18 8,bT 19 .lss 17 18] (kX 19 0)) (.seq (.blk 1 (kr [xv 22 0,xv 23 1,xc2 24 98 (.t 23) (xi 1),xo 25 (.call 39 [true,false] [.t 22,.t 24]),xv 10 25] (kr [xI 11 0] (.blk 2 (.loop (.seq (kr [xv 26 11,xv 27 0,xo 28 (.call 39 [true,false] [.t 27,xi 6]),xo 29 (.bin .add (xi 1) (.t 28)),bT 30 .lss 26 29] (kX 30 2)) (.seq (.blk 3 (xr [xv 33 7,xv 34 10,xv 35 0,xo 36 (.call 39 [true,false] [.t 35,xi 4]),xo 37 (.build [xz,xz] [(0,1,.t 34),(1,1,.t 36)]),xo 38 (.mkSl [xz,xz] 1 [(0,.t 37)]),xA 39 2 16 33 38,xv 7 39])) (xr [xv 31 11,bI 32 .add 31 1,xv 11 32])))))))) (xr [xv 20 9,bI 21 .add 20 1,xv 9 21])))))) (kR [xv 40 7,xv 6 40]))))⟩
def pick1F (code:List Int) (who:Int) (d:Cur):Pick×Cur:=(⟨who,(belowF code d 4).1⟩,(belowF code d 4).2)
def play1F (code:List Int) (m:Int) (s:List Pick×Cur):List Pick×Cur:=drawsF code 1 6 (pick1F code (belowF code s.2 m).1) 6 0 (belowF code s.2 m).2 s.1
def playF (code:List Int) (m:Int):Nat→List Pick×Cur→List Pick×Cur
 | 0,s=>s
 | k+1,s=>play1F code m (playF code m k s)
def max1 (n:Int):Int:=if 1<n then n else 1
def l8picksF (code:List Int) (c:Cur) (cores most:Int):List Pick×Cur:=playF code (max1 cores) (belowF code c (most+1)).1.toNat ([],(belowF code c (most+1)).2)
theorem playF_len (code:List Int) (m:Int) (s:List Pick×Cur) :∀k,s.1.length≤(playF code m k s).1.length∧(playF code m k s).1.length≤s.1.length+6*k
 | 0=>⟨Nat.le_refl _,by simp [playF]⟩
 | k+1=>by
  obtain ⟨h1,h2⟩:=playF_len code m s k
  have h3:=drawsF_length (code:=code) (base:=1) (m:=6) (step:=pick1F code (belowF code (playF code m k s).2 m).1) 6 0 (belowF code (playF code m k s).2 m).2 (playF code m k s).1
  rw [playF]
  unfold play1F
  omega
theorem l8picksF_len (code:List Int) (c:Cur) (cores:Int) {most:Nat}:(l8picksF code c cores most).1.length≤6*most:=by
 have h:=(playF_len code (max1 cores) ([],(belowF code c (most+1)).2) (belowF code c (most+1)).1.toNat).2
 have hb:=belowF_in code c ((most:Int)+1) (by omega)
 unfold l8picksF
 simp only [List.length_nil] at h
 omega
theorem pcks_snoc (l:List Pick) (w v:Int):pcks l++[[.int .i64 w,.int .i64 v]]=pcks (l++[⟨w,v⟩]):=by simp [pcks,pickC]
theorem l8DrawPicks_ok (code:List Int) (c:Cur) (cores most:Int) (hb:code.length<2^62) (hm:0≤most∧most<2^30):CallOk Tryz.prog num 463 [.ptr 0 0 0,.int .i64 cores,.int .i64 most] [(0,some (3,[curC code c]),some (3,[curC code (l8picksF code c cores most).2]))] (.sl .own 2 (pcks (l8picksF code c cores most).1)):=by
 have w1:IntKind.i64.wrap (most+1)=most+1:=wrap64 (by omega) (by omega)
 refine EH m463 Tryz.func65 ?_
 unfold m463
 simp only [go_sem,seval,w1]
 repeat refine K ?_
 refine CA [(0,0)] (l1Below_ok code c (most+1) hb) ?_
 try simp only [go_sem,seval]
 repeat refine K ?_
 have hn:=belowF_in code c (most+1) (by omega)
 unfold l8picksF
 generalize belowF code c (most+1)=r at hn
 obtain ⟨n,d⟩:=r
 simp only at hn⊢
 obtain ⟨n,rfl⟩:=Int.eq_ofNat_of_zero_le hn.1
 rw [Int.toNat_natCast]
 have hmx:max1 cores=(if 1<cores then cores else 1):=rfl
 generalize max1 cores=mx at hmx
 have cm:=l1Max_ok cores 1
 rw [←hmx] at cm
 try simp only [go_sem,seval]
 repeat refine K ?_
 refine loop_intro (ι:=Nat) (fun i=>.mk [(0,.ptr 0 0 0),(1,.int .i64 cores),(7,.ns 10 0 (playF code mx i ([],d)).1.length),(8,.int .i64 n),(9,.int .i64 i)] [(0,3,[curC code (playF code mx i ([],d)).2]),(10,2,pcks (playF code mx i ([],d)).1)] 11) (fun i=>i≤n) (fun i=>n-i) 0 (by simp) ?_ ?_
 ·refine Sub.shape [] id (by omega) ?_ ?_ ?_ ?_<;>simp [ints_rep]
  all_goals (first | rfl | exact ⟨⟨rfl,rfl⟩,.inl rfl⟩)
 ·intro i hi
  have hlen:=(playF_len code mx ([],d) i).2
  have hst:playF code mx (i+1) ([],d)=play1F code mx (playF code mx i ([],d)):=rfl
  generalize hs:playF code mx i ([],d)=s at hlen hst
  obtain ⟨acc0,e0⟩:=s
  simp only [List.length_nil] at hlen
  simp only [go_sem,seval]
  refine branch_intro (fun hc=>?_) (fun hc=>?_)
  ·simp only [decide_eq_true_eq] at hc
   have hi':i<n:=by omega
   simp only [go_sem,seval]
   repeat refine K ?_
   refine CA [] (cm) ?_
   try simp only [go_sem,seval]
   repeat refine K ?_
   try simp only [go_sem,seval]
   repeat refine K ?_
   refine CA [(0,0)] (l1Below_ok code e0 mx hb) ?_
   try simp only [go_sem,seval]
   repeat refine K ?_
   unfold play1F at hst
   simp only at hst
   generalize belowF code e0 mx=q at hst
   obtain ⟨who,e⟩:=q
   simp only at hst⊢
   try simp only [go_sem,seval]
   repeat refine K ?_
   refine loop_intro (ι:=Nat×Cur×List Pick) (fun s=>.mk [(0,.ptr 0 0 0),(1,.int .i64 cores),(7,.ns 10 0 s.2.2.length),(8,.int .i64 n),(9,.int .i64 i),(10,.int .i64 who),(11,.int .i64 s.1)] [(0,3,[curC code s.2.1]),(10,2,pcks s.2.2)] 11) (fun s=>s.1≤6∧s.2.2.length≤acc0.length+s.1∧drawsF code 1 6 (pick1F code who) (6-s.1) s.1 s.2.1 s.2.2=drawsF code 1 6 (pick1F code who) 6 0 e acc0) (fun s=>6-s.1) (0,e,acc0) ⟨by simp,by simp,rfl⟩ ?_ ?_
   ·refine Sub.shape [] id (by omega) ?_ ?_ ?_ ?_<;>simp [ints_rep]
    all_goals (exact .inl rfl)
   ·rintro ⟨j,f,acc⟩ ⟨hj,hl,hd⟩
    simp only at hj hl hd⊢
    simp only [go_sem,seval]
    refine CA [(0,0)] (l1Below_ok code f 6 hb) ?_
    try simp only [go_sem,seval]
    repeat refine K ?_
    have hr:=belowF_in code f 6 (by omega)
    have w2:IntKind.i64.wrap (1+(belowF code f 6).1)=1+(belowF code f 6).1:=wrap64 (by omega) (by omega)
    simp only [go_sem,seval,w2]
    refine branch_intro (fun hc2=>?_) (fun hc2=>?_)
    ·simp only [decide_eq_true_eq] at hc2
     have hg:=drawsF_go (code:=code) (base:=1) (m:=6) (step:=pick1F code who) (N:=6) (i:=j) (c:=f) (acc:=acc) (by omega) (by omega)
     rw [hg] at hd
     simp only [go_sem,seval,wrap_succ (i:=j) (by omega)]
     repeat refine K ?_
     refine CA [(0,0)] (l1Below_ok code (belowF code f 6).2 4 hb) ?_
     try simp only [go_sem,seval]
     repeat refine K ?_
     try simp only [go_sem,seval,wrap_succ (i:=j) (by omega)]
     repeat refine K ?_
     refine back_intro (j+1,(pick1F code who (belowF code f 6).2).2,acc++[(pick1F code who (belowF code f 6).2).1]) ?_ ⟨by simp only; omega,by simp only [List.length_append,List.length_singleton]; omega,hd⟩ (by simp only; omega)
     refine Sub.shape [] (fun n=>if n=10 then 12 else n) (by omega) ?_ ?_ ?_ ?_<;>simp [ints_rep]
     all_goals (exact ⟨⟨rfl,rfl⟩,.inl (pcks_snoc _ _ _)⟩)
    ·simp only [decide_eq_false_iff_not] at hc2
     rw [drawsF_stop (by omega)] at hd
     rw [←hd] at hst
     simp only [go_sem,seval,wrap_succ (i:=i) (by omega)]
     repeat refine K ?_
     refine back_intro (i+1) ?_ hi' (by omega)
     rw [hst]
     refine Sub.shape [] id (by omega) ?_ ?_ ?_ ?_<;>simp [ints_rep]
     all_goals (first | exact .inl rfl | skip)
  ·simp only [decide_eq_false_iff_not] at hc
   have he:i=n:=by omega
   subst he
   simp only [go_sem,seval]
   repeat refine K ?_
   rw [hs]
   refine ⟨_,Sub.refl _,FinS_one ?_⟩; simp [-List.drop_one]
def playedF (code:List Int):Prog×List Pick:=((rightF code (newF code)).1,(l8picksF code (rightF code (newF code)).2 (rightF code (newF code)).1.bods.length (longF code.length 60 160)).1)
theorem l8picks_late {code:List Int} {c:Cur} {cores most:Int} :∀x∈(l8picksF code c cores most).1,pkOk x:=by
 have h1 :∀(m:Int) (k:Nat) (s:List Pick×Cur),(∀x∈s.1,pkOk x)→∀x∈(playF code m k s).1,pkOk x:=by
  intro m k
  induction k with
  | zero=>intro s hs; exact hs
  | succ k ih =>
   intro s hs
   rw [playF]
   unfold play1F
   refine drawsF_all (fun c=>?_) _ _ _ _ (ih s hs)
   have:=belowF_in code c 4 (by omega)
   unfold pick1F pkOk
   simp only
   omega
 unfold l8picksF
 exact h1 _ _ _ (fun x hx=>by simp at hx)
theorem playedF_ok (code:List Int):progOk (playedF code).1=true∧(playedF code).2.length≤960∧∀x∈(playedF code).2,pkOk x:=by
 have hm:=longF_in code.length (show (60:Int)≤160 by omega)
 refine ⟨rightF_progOk code (newF code),?_,l8picks_late⟩
 unfold playedF
 simp only
 obtain ⟨m,hm2⟩:=Int.eq_ofNat_of_zero_le (show 0≤longF code.length 60 160 by omega)
 rw [hm2]
 have:=l8picksF_len code (rightF code (newF code)).2 (rightF code (newF code)).1.bods.length (most:=m)
 omega
theorem drawPlayed_ok (code:List Int) (hb:code.length<2^62):CallOk Tryz.prog num 439 [.sl .fz 1 (bys code)] [] (.tup [.agg (progC .own (playedF code).1),.sl .own 2 (pcks (playedF code).2)]):=by
 have hm:=longF_in code.length (show (60:Int)≤160 by omega)
 refine EN m439 Tryz.func15 ?_
 unfold m439 playedF
 simp only [go_sem,seval]
 repeat refine K ?_
 refine calls_intro (call_ok (n1:=12) [(10,11)] (l1New_ok code hb) ?_ ?_ ?_ ?_ ?_ ?_ ?_) ?_
 any_goals (first | omega | (simp [nilL,nilV]; done) | (simp [nilL,nilV, *]; done))
 try simp only [go_sem,seval]
 repeat refine K ?_
 refine CA [(0,11)] (l1DrawRight_ok code (newF code) hb) ?_
 try simp only [go_sem,seval]
 repeat refine K ?_
 generalize rightF code (newF code)=r
 obtain ⟨p,d⟩:=r
 simp only
 try simp only [go_sem,seval]
 repeat refine K ?_
 refine DA [] (l1Long_ok code 60 160 hb (by omega)) ?_
 try simp only [go_sem,seval]
 repeat refine K ?_
 generalize longF code.length 60 160=w at hm
 refine DA [(0,11)] (l8DrawPicks_ok code d p.bods.length w hb (by omega)) ?_
 try simp only [go_sem,seval]
 repeat refine K ?_
 try simp only [go_sem,seval]
 repeat refine K ?_
 apply fin_tup (by simp)
 ·exact Sub.refl _
 ·simp [-List.drop_one,-gD,ints_rep]<;>(first | rfl | exact ⟨rfl,rfl⟩ | exact ⟨rfl,rfl,rfl⟩ | skip)
theorem witness_none {p:Prog} {l:List Pick} (h:(witness p l).2.2=false):(witness p l).1=[]∧(witness p l).2.1=nilM:=by
 unfold witness at h⊢
 split
 ·rename_i hc
  rw [if_pos hc] at h
  simp at h
 ·exact ⟨rfl,rfl⟩
end Go.Sep
