/- Contracts of functions. -/
import Derived.Test.YtebbppogicgpkaaGreatSxx10
import Derived.Test.YtebbppogicgpkaaGreatSxx19
import Derived.Test.YtebbppogicgpkaaGreatSxx41
namespace Go.Sep
set_option maxHeartbeats 16000000
open Go.Proofs
set_option linter.unusedSimpArgs false
set_option linter.unusedVariables false
set_option maxRecDepth 100000
theorem qO5 (a b:Nat) (n:Int) (h:0≤n):(if szL a n<0 then -1 else szL b (szL a n))=szL (a+b) n:=by
 unfold szL
 by_cases h1:n-a<0
 ·rw [if_pos h1,if_pos (by decide),if_pos (by push_cast; omega)]
 ·rw [if_neg h1,if_neg h1]
  by_cases h2:n-a-b<0
  ·rw [if_pos h2,if_pos (by push_cast; omega)]
  ·rw [if_neg h2,if_neg (by push_cast; omega)]
   push_cast
   omega
theorem wA1 {k:Nat} {n:Int} (h:szL k n<0):szL k n=-1:=by
 unfold szL at h⊢
 split
 ·rfl
 ·rename_i h4; rw [if_neg h4] at h; omega
theorem qY4 {k:Nat} {n:Int} (h :¬szL k n<0) (h0:0≤n):(k:Int)≤n:=by
 have:=qSi h
 omega
theorem qMj :∀(l:List (List Ins)) (n:Int),0≤n→rO l n=szL (tot l) n
 | [],n,h=>by
  simp only [rO,tot]
  unfold szL
  rw [if_neg (by push_cast; omega)]
  push_cast
  omega
 | a::l,n,h=>by
  simp only [rO,tot]
  rw [←qO5 _ _ _ h]
  by_cases h2:szL a.length n<0
  ·rw [if_pos h2,if_pos h2]
  ·rw [if_neg h2,if_neg h2]
   exact qMj l _ (by omega)
def qMe (p:wM):Nat:=p.caps.length+(p.bods.length+tot p.bods)
theorem qVt (p:wM) (n:Int) (h:0≤n):qEw p n=szL (qMe p) n:=by
 unfold qEw qMe qC4
 rw [←qO5 _ _ _ h]
 by_cases h1:szL p.caps.length n<0
 ·rw [if_pos h1,if_pos h1]
 ·have h1':0≤szL p.caps.length n:=by omega
  rw [if_neg h1,if_neg h1,←qO5 _ _ _ h1']
  by_cases h2:szL p.bods.length (szL p.caps.length n)<0
  ·simp only [if_pos h2]
   rfl
  ·simp only [if_neg h2]
   rw [qMj _ _ (by omega)]
   by_cases h3:szL (tot p.bods) (szL p.bods.length (szL p.caps.length n))<0
   ·rw [if_pos h3,wA1 h3]
   ·rw [if_neg h3]
structure wBy (p:wM) (n:Nat):Prop where
 caps:p.caps.length≤n
 bods:p.bods.length≤n
 body :∀b∈p.bods,b.length≤n
 tot:tot p.bods≤n
theorem qUs :∀{l:List (List Ins)} {b:List Ins},b∈l→b.length≤tot l
 | [],b,h=>by simp at h
 | a::l,b,h=>by
  simp only [tot]
  rcases List.mem_cons.1 h with rfl | h
  ·omega
  ·have:=qUs h
   omega
theorem qYe {p:wM} {n:Nat} (h:qMe p≤n):wBy p n:=by
 unfold qMe at h
 exact ⟨by omega,by omega,fun b hb=>by have:=qUs hb; omega,by omega⟩
theorem qYg (n:Nat) (who_:Int) (late_:Int):List.replicate n [.int .i64 who_,.int .i64 late_]=uZ (List.replicate n ⟨who_,late_⟩):=by simp [uZ,cY]
def m348:MFn:=⟨11,[.cell 2 2 true],kr [xb 1 0,xo 2 (.alloc [xz,xz])] (kr [xo 3 (.alloc [xz,xz])] (kr [xa 4 0 1,xl 5 4,xa 6 0 3,xS 1 6 5] (kr [xa 7 1 1,xl 8 7,xa 9 1 3,xS 1 9 8] (kR [xm 10 2 3,xS 2 2 10]))))⟩
def m384:MFn:=⟨12,[.t 4],kr [xI 4 0] (kr [xv 5 1,xv 6 0,xe 7 6,bT 8 .sub 5 7,xv 1 8] (.seq (kr [xv 9 1,bI 10 .lss 9 0] (kF 10 [xo 4 (.mv (.c (.int .i64 (-1))))])) (kR [xv 11 1,xv 4 11])))⟩
def m385:MFn:=⟨23,[.t 2],kr [xo 2 (.mv (.c (.nil)))] (kr [xv 5 0,xe 6 5,xo 7 (.mkS [xz,xz] 16 (.t 6) (.t 6)),xv 3 7] (.seq (kr [xI 4 0] (.blk 0 (.loop (.seq (kr [xv 8 4,xv 9 0,xe 10 9,bT 11 .lss 8 10] (kX 11 0)) (.seq (.blk 1 (xr [xv 14 3,xv 15 4,xv 16 0,xv 17 4,xD 18 2 16 17,xm 19 2 18,xc1 20 348 (.t 19),xD 21 2 14 15,xS 2 21 20])) (xr [xv 12 4,bI 13 .add 12 1,xv 4 13])))))) (kR [xv 22 3,xv 2 22])))⟩
def m388:MFn:=⟨27,[.t 4],kr [xF 4] (.seq (kr [xv 6 0,xe 7 6,xv 8 1,xe 9 8,bT 10 .neq 7 9] (kF 10 [xF 4])) (.seq (kr [xI 5 0] (.blk 0 (.loop (.seq (kr [xv 11 5,xv 12 0,xe 13 12,bT 14 .lss 11 13] (kX 14 0)) (.seq (.blk 1 (.seq (.dreg (.take 0 (xv 17 0) (.take 1 (xv 18 5) (.take 2 (xD 19 2 17 18) (.take 3 (xm 20 2 19) (.take 4 (xv 21 1) (.only 5 [] (xv 22 5) (.only 6 [4] (xD 23 2 21 22) (.only 7 [6,4] (xm 24 2 23) (.only 8 [3,7,2,6,0,1,4] (xc2 25 414 (.t 20) (.t 24)) (.only 9 [8,3,7,2,6,0,1,4] (xN 26 25) (.done)))))))))))) (kF 26 [xF 4]))) (xr [xv 15 5,bI 16 .add 15 1,xv 5 16])))))) (kR [xT 4])))⟩
def m414:MFn:=⟨15,[.t 4],kr [xb 2 0,xb 3 1,xF 4] (.seq (kr [xa 5 0 2,xl 6 5,xa 7 0 3,xl 8 7,bT 9 .neq 6 8] (kF 9 [xF 4])) (.seq (kr [xa 10 1 2,xl 11 10,xa 12 1 3,xl 13 12,bT 14 .neq 11 13] (kF 14 [xF 4])) (kR [xT 4])))⟩
theorem qVo (x:vD):qW Tryz.prog num 348 [.agg (cY x)] [] (.agg (cY x)):=by
 refine EN m348 Tryz.func114 ?_
 unfold m348
 simp only [go_sem,seval]
 refine ⟨_,Sub.refl _,yQ ?_⟩; simp [-List.drop_one]
theorem qSf (l:List vD) (hl:64*l.length≤2^47):qW Tryz.prog num 385 [.sl .bw 2 (uZ l)] [] (.sl .own 2 (uZ l)):=by
 refine EN m385 Tryz.func45 ?_
 unfold m385
 simp only [go_sem,seval]
 repeat refine K ?_
 refine qX (ι:=Nat) (fun i=>.mk [(0,.sl .bw 2 (uZ l)),(3,.ns 10 0 l.length),(4,.int .i64 i)] [(10,2,uZ (l.take i++List.replicate (l.length-i) ⟨0,0⟩))] 11) (fun i=>i≤l.length) (fun i=>l.length-i) 0 (by simp) ?_ ?_
 ·refine Sub.shape [] id (by omega) ?_ ?_ ?_ ?_<;>simp [qK]
  left
  exact qYg _ _ _
 ·intro i hi
  simp only [go_sem,seval]
  refine qL (fun hc=>?_) (fun hc=>?_)
  ·simp only [decide_eq_true_eq] at hc
   have hl':i<l.length:=by omega
   have hm:=qAg l (⟨0,0⟩:vD) i hi
   simp only [go_sem,seval,hO l i hl',hm]
   repeat refine K ?_
   refine CA [] (qVo (l.getD i default)) ?_
   try simp only [go_sem,seval]
   repeat refine K ?_
   have hs:=qK1 l default (⟨0,0⟩:vD) i hl'
   have hs':(l.take i++List.replicate (l.length-i) (⟨0,0⟩:vD)).set i ⟨(l.getD i default).who,(l.getD i default).late⟩=l.take (i+1)++List.replicate (l.length-(i+1)) ⟨0,0⟩:=hs
   try simp only [go_sem,seval,hO _ i (hm▸hl'),hm,hs',qS (i:=i) (by omega)]
   repeat refine K ?_
   refine qT (i+1) (Sub.shape [] id (by omega) ?_ ?_ ?_ ?_) ?_ ?_
   any_goals (first | omega | (simp [qK]; done))
  ·simp only [decide_eq_false_iff_not] at hc
   have:i=l.length:=by omega
   subst this
   simp only [go_sem,seval]
   refine fz ?_; simp [qZ,qU,qV,qQ,-List.drop_one]
theorem qSh (xs:List vD) (n:Int) (hx:xs.length<2^63) (h0:0≤n) (h1:n≤2^62):qW Tryz.prog num 384 [.sl .bw 2 (uZ xs),.int .i64 n] [] (.int .i64 (szL xs.length n)):=by
 refine EN m384 Tryz.func42 ?_
 unfold m384
 have hw:IntKind.i64.wrap (n-xs.length)=n-xs.length:=wJ (by omega) (by omega)
 simp only [go_sem,seval,hw]
 refine qL (fun hc=>?_) (fun hc=>?_)
 ·simp only [go_sem,seval]
  refine fz ?_; simp [qZ,qU,qV,qQ,-List.drop_one]
  simp only [decide_eq_true_eq] at hc
  simp [szL,hc]
 ·simp only [go_sem,seval]
  refine fz ?_; simp [qZ,qU,qV,qQ,-List.drop_one]
  simp only [decide_eq_false_iff_not] at hc
  simp [szL,hc]
theorem qX3 (x y:vD):qW Tryz.prog num 414 [.agg (cY x),.agg (cY y)] [] (.bool (decide (x=y))):=by
 refine EN m414 Tryz.func117 ?_
 unfold m414
 cases x
 cases y
 repeat' (first
  | (simp only [go_sem,seval])
  | (refine qL (fun hc=>?_) (fun hc=>?_)<;>((try simp only [Bool.not_eq_true',Bool.not_eq_false',ne_eq,Bool.not_eq_true,Bool.not_eq_false] at hc)<;>(try simp only [hc])))
  | (refine uG (fun hc=>?_) (fun hc=>?_)<;>((try simp only [Bool.not_eq_true',Bool.not_eq_false',ne_eq,Bool.not_eq_true,Bool.not_eq_false] at hc)<;>(try simp only [hc])))
  | (refine vQ (fun hc=>?_) (fun hc=>?_)<;>((try simp only [Bool.not_eq_true',Bool.not_eq_false',ne_eq,Bool.not_eq_true,Bool.not_eq_false] at hc)<;>(try simp only [hc])))
  | (refine ⟨by first | omega | (simp; done),?_⟩)
  | fail)
 all_goals (refine fz ?_; simp [qZ,qU,qV,qQ,-List.drop_one])
 all_goals (try (simp_all; done))
theorem qTg (xs ys:List vD) (hx:xs.length≤2^47)  : qW Tryz.prog num 388 [.sl .bw 2 (uZ xs),.sl .bw 2 (uZ ys)] [] (.bool (decide (xs=ys))):=by
 refine EN m388 Tryz.func47 ?_
 unfold m388
 simp only [go_sem,seval]
 refine qL (fun hc=>?_) (fun hc=>?_)
 ·have hne:xs≠ys:=fun he=>by subst he; simp at hc
  simp only [go_sem,seval]
  refine fz ?_; simp [qZ,qU,qV,qQ,-List.drop_one]
  exact hne
 ·have hl:xs.length=ys.length:=by simp at hc; omega
  simp only [go_sem,seval]
  refine qX (ι:=Nat) (fun i=>.mk [(0,.sl .bw 2 (uZ xs)),(1,.sl .bw 2 (uZ ys)),(5,.int .i64 i)] [] 10) (fun i=>i≤xs.length∧xs.take i=ys.take i) (fun i=>xs.length-i) 0 (by simp) ?_ ?_
  ·refine Sub.shape [] id (by omega) ?_ ?_ ?_ ?_<;>simp [qK]
  ·rintro i ⟨hi,hp⟩
   simp only [go_sem,seval]
   refine qL (fun hc=>?_) (fun hc=>?_)
   ·simp only [decide_eq_true_eq] at hc
    have hil:i<xs.length:=by omega
    have hjl:i<ys.length:=by omega
    simp only [go_sem,seval,hO xs i hil,hO ys i hjl]
    repeat refine K ?_
    refine DA [] (qX3 (xs.getD i default) (ys.getD i default)) ?_
    try simp only [go_sem,seval]
    by_cases he:xs.getD i default=ys.getD i default
    ·simp only [go_sem,seval,he,qS (i:=i) (by omega)]
     refine qT (i+1) (Sub.shape [] id (by omega) ?_ ?_ ?_ ?_) ?_ ?_
     any_goals (first | omega | (simp [qK]; done))
     refine ⟨hil,?_⟩
     rw [List.take_succ_eq_append_getElem hil,List.take_succ_eq_append_getElem hjl,hp]
     have he':xs[i]=ys[i]:=by simpa [List.getD_eq_getElem?_getD,hil,hjl] using he
     rw [he']
    ·simp only [go_sem,seval,he]
     refine fz ?_; simp [qZ,qU,qV,qQ,-List.drop_one]
     intro h
     subst h
     exact he rfl
   ·simp only [decide_eq_false_iff_not] at hc
    have he:xs=ys:=by
     have h1:i=xs.length:=by omega
     rw [h1,List.take_length,hl,List.take_length] at hp
     exact hp
    simp only [go_sem,seval]
    refine fz ?_; simp [qZ,qU,qV,qQ,-List.drop_one]
    exact he
def m417:MFn:=⟨32,[.t 4],kr [xF 4] (.seq (kr [xI 5 0] (.blk 0 (.loop (.seq (kr [xv 6 5,xv 7 0,xe 8 7,bT 9 .lss 6 8,xv 10 9,yv 11 5 10,yv 12 1 10,ye 13 12 10,xg 14 (.bin .lss (.t 11) (.t 13)) 10 true,xP 15 10 14] (kX 15 0)) (.seq (.blk 1 (.seq (.dreg (.take 0 (xv 18 0) (.take 1 (xv 19 5) (.take 2 (xD 20 2 18 19) (.take 3 (xm 21 2 20) (.take 4 (xv 22 1) (.only 5 [] (xv 23 5) (.only 6 [4] (xD 24 2 22 23) (.only 7 [6,4] (xm 25 2 24) (.only 8 [3,7,2,6,0,1,4] (xo 26 (.eqS true [true,true] (.t 21) (.t 25))) (.done))))))))))) (kF 26 [xF 4]))) (xr [xv 16 5,bI 17 .add 16 1,xv 5 17])))))) (kR [xv 27 0,xe 28 27,xv 29 1,xe 30 29,bT 31 .eql 28 30,xv 4 31]))⟩
def m433:MFn:=⟨32,[.t 4],kr [xF 4] (.seq (kr [xI 5 0] (.blk 0 (.loop (.seq (kr [xv 6 5,xv 7 0,xe 8 7,bT 9 .lss 6 8,xv 10 9,yv 11 5 10,yv 12 1 10,ye 13 12 10,xg 14 (.bin .lss (.t 11) (.t 13)) 10 true,xP 15 10 14] (kX 15 0)) (.seq (.blk 1 (.seq (.dreg (.take 0 (xv 18 0) (.take 1 (xv 19 5) (.take 2 (xD 20 1 18 19) (.take 3 (xl 21 20) (.take 4 (xv 22 1) (.only 5 [] (xv 23 5) (.only 6 [4] (xD 24 1 22 23) (.only 7 [6,4] (xl 25 24) (.only 8 [3,7,2,6,0,1,4] (bT 26 .neq 21 25) (.done))))))))))) (kF 26 [xF 4]))) (xr [xv 16 5,bI 17 .add 16 1,xv 5 17])))))) (kR [xv 27 0,xe 28 27,xv 29 1,xe 30 29,bT 31 .eql 28 30,xv 4 31]))⟩
theorem qJk (a b:List Int) (h1:a.length<2^40):qW Tryz.prog num 433 [.sl .bw 1 (wN a),.sl .bw 1 (wN b)] [] (.bool (decide (a=b))):=by
 refine EN m433 Tryz.func110 ?_
 unfold m433
 simp only [go_sem,seval]
 refine qX (ι:=Nat) (fun i=>.mk [(0,.sl .bw 1 (wN a)),(1,.sl .bw 1 (wN b)),(5,.int .i64 i)] [] 10) (fun i=>i≤a.length∧i≤b.length∧a.take i=b.take i) (fun i=>a.length-i) 0 (by simp) ?_ ?_
 ·refine Sub.shape [] id (by omega) ?_ ?_ ?_ ?_<;>simp [qK]
 ·rintro i ⟨hi,hj,hp⟩
  have hend:(a.length≤i∨b.length≤i)→decide ((a.length:Int)=b.length)=decide (a=b):=fun h=>by
   by_cases hl:a.length=b.length
   ·rw [qI1 hp h hl]
    simp
   ·have :¬a=b:=fun e=>hl (by rw [e])
    simp [this]
    omega
  by_cases hc1:(i:Int)<a.length
  case neg =>
   simp only [go_sem,seval,hc1,hend (.inl (by omega))]
   refine fz ?_; simp [qZ,qU,qV,qQ,-List.drop_one]
  by_cases hc2:(i:Int)<b.length
  case neg =>
   simp only [go_sem,seval,hc1,hc2,hend (.inr (by omega))]
   refine fz ?_; simp [qZ,qU,qV,qQ,-List.drop_one]
  have g1:i<a.length:=by omega
  have g2:i<b.length:=by omega
  simp only [go_sem,seval,hc1,hc2,qI a i g1,qI b i g2]
  repeat refine K ?_
  by_cases he:a.getD i 0=b.getD i 0
  ·try simp only [go_sem,seval,he,qS (i:=i) (by omega)]
   refine qT (i+1) (Sub.shape [] id (by omega) ?_ ?_ ?_ ?_) ⟨g1,g2,by rw [bO a 0 i g1,bO b 0 i g2,hp,he]⟩ (by omega)<;>simp [qK]
  ·have hne :¬a=b:=fun e=>he (by rw [e])
   try simp only [go_sem,seval,he]
   refine fz ?_; simp [qZ,qU,qV,qQ,-List.drop_one]
   all_goals simp [hne]
theorem qR4 (a b:List xJ) (h1:a.length<2^40):qW Tryz.prog num 417 [.sl .bw 2 (jK a),.sl .bw 2 (jK b)] [] (.bool (decide (a=b))):=by
 refine EN m417 Tryz.func121 ?_
 unfold m417
 simp only [go_sem,seval]
 refine qX (ι:=Nat) (fun i=>.mk [(0,.sl .bw 2 (jK a)),(1,.sl .bw 2 (jK b)),(5,.int .i64 i)] [] 10) (fun i=>i≤a.length∧i≤b.length∧a.take i=b.take i) (fun i=>a.length-i) 0 (by simp) ?_ ?_
 ·refine Sub.shape [] id (by omega) ?_ ?_ ?_ ?_<;>simp [qK]
 ·rintro i ⟨hi,hj,hp⟩
  have hend:(a.length≤i∨b.length≤i)→decide ((a.length:Int)=b.length)=decide (a=b):=fun h=>by
   by_cases hl:a.length=b.length
   ·rw [qI1 hp h hl]
    simp
   ·have :¬a=b:=fun e=>hl (by rw [e])
    simp [this]
    omega
  by_cases hc1:(i:Int)<a.length
  case neg =>
   simp only [go_sem,seval,hc1,hend (.inl (by omega))]
   refine fz ?_; simp [qZ,qU,qV,qQ,-List.drop_one]
  by_cases hc2:(i:Int)<b.length
  case neg =>
   simp only [go_sem,seval,hc1,hc2,hend (.inr (by omega))]
   refine fz ?_; simp [qZ,qU,qV,qQ,-List.drop_one]
  have g1:i<a.length:=by omega
  have g2:i<b.length:=by omega
  simp only [go_sem,seval,hc1,hc2,cF a i g1,cF b i g2,qQl]
  repeat refine K ?_
  by_cases he:a.getD i default=b.getD i default
  ·have d3:(!decide (a.getD i default=b.getD i default))=false:=by rw [decide_eq_true he]; rfl
   try simp only [go_sem,seval,d3,qS (i:=i) (by omega)]
   refine qT (i+1) (Sub.shape [] id (by omega) ?_ ?_ ?_ ?_) ⟨g1,g2,qJ6 i g1 g2 hp he⟩ (by omega)<;>simp [qK]
  ·have hne :¬a=b:=fun e=>he (by rw [e])
   have d3:(!decide (a.getD i default=b.getD i default))=true:=by rw [decide_eq_false he]; rfl
   try simp only [go_sem,seval,d3]
   refine fz ?_; simp [qZ,qU,qV,qQ,-List.drop_one]
   all_goals simp [hne]
theorem Inv.runLate {p:wM} :∀(l:List vD) {m:qO} {s:wH} (k:List vD),Inv p m s→l.map (·.who)=k.map (·.who)→aV m l=aV m k∧vH p m l=vH p m k
 | [],m,s,k,h,he=>by
  have:k=[]:=by cases k<;>simp_all
  subst this
  exact ⟨rfl,rfl⟩
 | x::l,m,s,k,h,he=>by
  cases k with
  | nil=>simp at he
  | cons y k =>
   simp only [List.map_cons,List.cons.injEq] at he
   have hx:=h.late x
   have hy:=h.late y
   rw [←he.1] at hy
   have hxy:wZ m x=wZ m y:=by rw [hx,hy]
   have hd:did p m x=did p m y:=by unfold did; rw [hxy,he.1]
   have hI :∃s',Inv p (wZ m x).1 s':=by
    rcases h.pick x with ⟨_,h2⟩ | ⟨_,_,h3⟩
    ·exact ⟨_,h2⟩
    ·exact ⟨_,h3⟩
   obtain ⟨s',hI⟩:=hI
   obtain ⟨g1,g2⟩:=Inv.runLate l k hI he.2
   simp only [aV,vH]
   rw [g1,g2,hxy,hd,he.1]
   exact ⟨rfl,rfl⟩
theorem qNy {p:wM} {l k:List vD} (h:l.map (·.who)=k.map (·.who)):wQ p l=wQ p k:=by
 have hl:l.length=k.length:=by have:=congrArg List.length h; simpa using this
 unfold wQ
 rw [hl]
 cases ho:(launch p).2
 ·rfl
 ·obtain ⟨a,b⟩:=(Inv.launch ho).runLate l k h
  rw [a,b]
end Go.Sep
