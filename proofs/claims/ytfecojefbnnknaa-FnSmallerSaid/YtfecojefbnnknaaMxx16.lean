/- Contracts of functions. -/
import Derived.Test.YtfecojefbnnknaaMxx15
open List renaming drop_one → wEc, getD_cons_succ → wEo, getD_eq_getElem?_getD → wCu, length_take → wCl, take_of_length_le → wD1, take_succ_cons → wEp
namespace Go.Sep
set_option maxHeartbeats 16000000
open Go.Proofs
set_option linter.unusedSimpArgs false
set_option linter.unusedVariables false
set_option maxRecDepth 100000
def m217:MFn:=⟨22,[.t 2],kr [xb 1 0,xo 2 (.mv (.c (.nil)))] (.seq (kr [xa 3 0 1,xl 4 3] (.blk 0 (.seq (kr [bI 6 .eql 4 1,xv 5 6] (.cond 5 (.skip) (kr [bI 7 .eql 4 2,xv 5 7] (.cond 5 (.skip) (kr [bI 8 .eql 4 3,xv 5 8] (.cond 5 (.skip) (kr [bI 9 .eql 4 4,xv 5 9] (.cond 5 (.skip) (xr [bI 10 .eql 4 7,xv 5 10]))))))))) (.cond 5 (kR [xa 11 1 1,xl 12 11,xo 13 (.mkSl [xz] 1 [(0,.t 12)]),xv 2 13]) (.seq (kr [bI 15 .eql 4 6,xv 14 15] (.cond 14 (.skip) (xr [bI 16 .eql 4 8,xv 14 16]))) (kF 14 [xa 17 1 1,xl 18 17,xa 19 3 1,xl 20 19,xo 21 (.mkSl [xz] 2 [(0,.t 18),(1,.t 20)]),xv 2 21])))))) (kR [xo 2 (.mv (.c (.nil)))]))⟩
def m292:MFn:=⟨79,[.cell 6 5 true],kr [xb 3 0,xo 6 (.alloc [xz,xz,xz,xz,xz])] (.seq (kr [xv 10 1,xe 11 10,bI 12 .neq 11 4,xv 13 12,za 14 2 3 13,zl 15 1 14 13,xg 16 (.call 97 [false] [.t 15]) 13 false,zN 17 16 13,xQ 18 13 17,xv 19 18,za 20 3 3 19,zl 21 1 20 19,xg 22 (.call 97 [false] [.t 21]) 19 false,zN 23 22 19,xQ 24 19 23,xv 25 24,zv 26 1 25,za 27 2 3 25,zl 28 1 27 25,xg 29 (.iad 2 (.t 26) (.t 28)) 25 false,za 30 0 29 25,zl 31 1 30 25,zN 32 31 25,xQ 33 25 32] (kF 33 [xm 34 5 3,xS 5 6 34])) (.seq (.dreg (.take 0 (xv 35 1) (.take 1 (xa 36 2 3) (.take 2 (xl 37 36) (.take 3 (xD 38 2 35 37) (.take 4 (xm 39 2 38) (.take 5 (xv 40 1) (.take 6 (xa 41 3 3) (.take 7 (xl 42 41) (.take 8 (xD 43 2 40 42) (.take 9 (xm 44 2 43) (.both 10 [] (xo 7 (.alloc [.bool false,.int .i64 0])) (.only 11 [] (xo 8 (.alloc [.bool false,.int .i64 0])) (.only 12 [0,1,2,3,4] (xS 2 7 39) (.only 13 [0,1,2,3,4,5,6,7,8,9] (xS 2 8 44) (.done)))) 11 [] (xo 8 (.alloc [.bool false,.int .i64 0])) (.only 10 [] (xo 7 (.alloc [.bool false,.int .i64 0])) (.only 12 [0,1,2,3,4] (xS 2 7 39) (.only 13 [0,1,2,3,4,5,6,7,8,9] (xS 2 8 44) (.done)))))))))))))))) (.seq (kr [xa 45 0 3,xl 46 45] (.blk 0 (.seq (kr [bI 48 .eql 46 2,xv 47 48] (.cond 47 (.skip) (kr [bI 49 .eql 46 3,xv 47 49] (.cond 47 (.skip) (xr [bI 50 .eql 46 4,xv 47 50]))))) (.cond 47 (kr [xa 51 0 3,xl 52 51,xa 53 1 7,xl 54 53,xa 55 1 8,xl 56 55,xc3 57 60 (.t 52) (.t 54) (.t 56),xv 9 57] (kr [xa 58 0 8,xl 59 58,xv 60 59,yv 61 9 60,xg 62 (.call 59 [false,false,false] [.t 61,.c (.int .i64 (-1000000000)),xi 1000000000]) 60 true,xP 63 60 62] (kF 63 [xa 64 1 3,xl 65 64,xv 66 9,xo 67 (.build [xz,xz,xz,xz,xz] [(0,1,xi 1),(1,1,.t 65),(4,1,.t 66)]),xS 5 6 67]))) (kr [bI 69 .eql 46 12,xv 68 69] (.cond 68 (.seq (kr [xa 70 1 7,xl 71 70,bI 72 .eql 71 0] (kF 72 [xa 73 4 3,xl 74 73,xo 75 (.build [xz,xz,xz,xz,xz] [(0,1,xi 11),(4,1,.t 74)]),xS 5 6 75])) (kR [xv 76 2,xo 77 (.build [xz,xz,xz,xz,xz] [(0,1,xi 11),(4,1,.t 76)]),xS 5 6 77])) (.skip))))))) (kR [xm 78 5 3,xS 5 6 78]))))⟩
def m330:MFn:=⟨73,[.t 4],kr [xb 2 0,xo 4 (.mv (.c (.nil)))] (kr [xo 8 (.mkSl [.bool false,.int .i64 0] 0 []),xv 9 1,xA 10 2 16 8 9,xv 5 10] (.seq (kr [xm 11 5 2,xc1 12 217 (.t 11),xe 13 12,xI 14 0] (.blk 0 (.loop (kr [bT 15 .lss 14 13] (.seq (kX 15 0) (.seq (.blk 1 (kr [xD 16 1 12 14,xl 17 16,xv 7 17] (xr [xv 18 5,xv 19 7,xo 20 (.build [.bool false,.int .i64 0] []),xD 21 2 18 19,xS 2 21 20]))) (xr [bI 22 .add 14 1,xv 14 22]))))))) (.seq (kr [xa 23 0 2,xl 24 23] (.blk 2 (kr [bI 26 .eql 24 1,xv 25 26] (.cond 25 (xr [xv 27 5,xa 28 1 2,xl 29 28,xa 30 4 2,xl 31 30,xo 32 (.build [.bool false,.int .i64 0] [(0,1,.c (.bool true)),(1,1,.t 31)]),xD 33 2 27 29,xS 2 33 32]) (.seq (kr [bI 35 .eql 24 2,xv 34 35] (.cond 34 (.skip) (kr [bI 36 .eql 24 3,xv 34 36] (.cond 34 (.skip) (xr [bI 37 .eql 24 4,xv 34 37]))))) (.cond 34 (kr [xv 38 1,xa 39 2 2,xl 40 39,xD 41 2 38 40,xa 42 0 41,xl 43 42,xv 44 43,yv 45 1 44,ya 46 3 2 44,yl 47 1 46 44,xg 48 (.iad 2 (.t 45) (.t 47)) 44 true,ya 49 0 48 44,yl 50 1 49 44,xP 51 44 50] (.cond 51 (.dreg (.take 0 (xv 52 5) (.take 1 (xa 53 1 2) (.take 2 (xl 54 53) (.take 3 (xa 55 0 2) (.take 4 (xl 56 55) (.take 5 (xv 57 1) (.take 6 (xa 58 2 2) (.take 7 (xl 59 58) (.take 8 (xD 60 2 57 59) (.take 9 (xa 61 1 60) (.take 10 (xl 62 61) (.take 11 (xv 63 1) (.only 12 [] (xa 64 3 2) (.only 13 [] (xl 65 64) (.only 14 [11] (xD 66 2 63 65) (.only 15 [14,11] (xa 67 1 66) (.only 16 [15,14,11] (xl 68 67) (.only 17 [4,10,16,3,9,15,8,14,5,7,11,6] (xc3 69 60 (.t 56) (.t 62) (.t 68)) (.only 18 [17,4,10,16,3,9,15,8,14,5,7,11,6] (xo 70 (.build [.bool false,.int .i64 0] [(0,1,.c (.bool true)),(1,1,.t 69)])) (.only 19 [0,1,2,3,4,5,6,7,8,9,10,11] (xD 71 2 52 54) (.only 20 [0,1,2,3,4,5,6,7,8,9,10,11] (xS 2 71 70) (.done))))))))))))))))))))))) (.skip))) (.skip))))))) (kR [xv 72 5,xv 4 72]))))⟩
def m331:MFn:=⟨31,[.t 4],kr [xF 4] (kr [xF 5] (.seq (kr [xv 8 0,xe 9 8,xI 10 0] (.blk 0 (.loop (kr [bT 11 .lss 10 9] (.seq (kX 11 0) (.seq (.blk 1 (kr [xv 12 10,xD 13 2 8 10,xm 14 2 13,xo 7 (.alloc [.bool false,.int .i64 0]),xv 6 12,xS 2 7 14] (.seq (.dreg (.only 0 [] (xa 15 0 7) (.only 1 [] (xl 16 15) (.only 2 [] (xv 17 16) (.take 3 (xg 18 (.load 2 true (.t 7)) 17 true) (.take 4 (yv 19 1 17) (.only 5 [] (yv 20 6 17) (.only 6 [4] (xg 21 (.iad 2 (.t 19) (.t 20)) 17 true) (.only 7 [6,4] (xg 22 (.load 2 true (.t 21)) 17 true) (.only 8 [3,7,6,4] (xg 23 (.eqS true [false,true] (.t 18) (.t 22)) 17 true) (.only 9 [8,3,7,6,4] (xP 24 17 23) (.done)))))))))))) (.cond 24 (kr [xv 25 0,xv 26 6,xo 27 (.build [.bool false,.int .i64 0] []),xD 28 2 25 26,xS 2 28 27] (xr [xT 5])) (.skip))))) (xr [bI 29 .add 10 1,xv 10 29]))))))) (kR [xv 30 5,xv 4 30])))⟩
theorem qDn (x:Ins):wD Try.prog num 217 [.agg (dL x)] [] (.sl .own 1 (wR (vP x))):=by
 refine EN m217 Try.func36 ?_
 unfold m217
 by_cases h1:x.op=1
 ·simp only [go_sem,seval,h1]
  repeat refine K ?_
  refine ⟨_,Sub.refl _,wG ?_⟩; simp [-wEc]
  all_goals simp [vP,h1,wR]
 by_cases h2:x.op=2
 ·simp only [go_sem,seval,h1,h2]
  repeat refine K ?_
  refine ⟨_,Sub.refl _,wG ?_⟩; simp [-wEc]
  all_goals simp [vP,h2,wR]
 by_cases h3:x.op=3
 ·simp only [go_sem,seval,h1,h2,h3]
  repeat refine K ?_
  refine ⟨_,Sub.refl _,wG ?_⟩; simp [-wEc]
  all_goals simp [vP,h3,wR]
 by_cases h4:x.op=4
 ·simp only [go_sem,seval,h1,h2,h3,h4]
  repeat refine K ?_
  refine ⟨_,Sub.refl _,wG ?_⟩; simp [-wEc]
  all_goals simp [vP,h4,wR]
 by_cases h7:x.op=7
 ·simp only [go_sem,seval,h1,h2,h3,h4,h7]
  repeat refine K ?_
  refine ⟨_,Sub.refl _,wG ?_⟩; simp [-wEc]
  all_goals simp [vP,h7,wR]
 by_cases h6:x.op=6
 ·simp only [go_sem,seval,h1,h2,h3,h4,h7,h6]
  repeat refine K ?_
  refine ⟨_,Sub.refl _,wG ?_⟩; simp [-wEc]
  all_goals simp [vP,h6,wR]
 by_cases h8:x.op=8
 ·simp only [go_sem,seval,h1,h2,h3,h4,h7,h6,h8]
  repeat refine K ?_
  refine ⟨_,Sub.refl _,wG ?_⟩; simp [-wEc]
  all_goals simp [vP,h8,wR]
 simp only [go_sem,seval,h1,h2,h3,h4,h7,h6,h8]
 repeat refine K ?_
 refine ⟨_,Sub.refl _,wG ?_⟩; simp [-wEc]
 all_goals simp [vP,h1,h2,h3,h4,h7,h6,h8,wR]
def oM (s:List Int) (k:KV):KV:=s.foldl (fun o r=>o.set r.toNat kno) k
theorem qA8 :∀(s:List Int) (k:KV),(oM s k).length=k.length
 | [],_=>rfl
 | r::s,k=>by
  have:=qA8 s (k.set r.toNat kno)
  rw [List.length_set] at this
  exact this
theorem qPn (s:List Int) (k:KV) (j:Nat) (h:j<s.length):oM (s.take (j+1)) k=(oM (s.take j) k).set (s.getD j 0).toNat ⟨false,0⟩:=by
 unfold oM
 rw [bG s 0 j h,List.foldl_append]
 rfl
theorem qZc {x:Ins} (hx:qCy x) :∀r∈vP x,0≤r∧r.toNat<4:=by
 unfold vP
 split
 ·intro r hr
  rw [List.mem_singleton.1 hr]
  exact hx.r
 ·split
  ·intro r hr
   simp only [List.mem_cons,List.not_mem_nil,or_false] at hr
   rcases hr with rfl | rfl
   ·exact hx.r
   ·exact hx.b
  ·intro r hr
   simp at hr
theorem qN2 (x:Ins):(vP x).length≤2:=by
 unfold vP
 repeat' split
 all_goals simp
theorem qVj (x:Ins) (k:KV):zS x k=if x.op=1 then (oM (vP x) k).set x.r.toNat ⟨true,x.n⟩
 else if oG x.op&&(k.getD x.a.toNat default).is_&&(k.getD x.b.toNat default).is_ then (oM (vP x) k).set x.r.toNat ⟨true,uX x.op (k.getD x.a.toNat default).v (k.getD x.b.toNat default).v⟩
 else oM (vP x) k:=rfl
theorem zL (op:Int):oG op=true↔op=2∨op=3∨op=4:=by
 unfold oG
 simp
 omega
theorem qId (x:Ins) (k:KV) (hx:qCy x) (hk:k.length=4):wD Try.prog num 330 [.agg (dL x),.sl .bw 2 (yP k)] [] (.sl .own 2 (yP (zS x k))):=by
 have hl:=qN2 x
 have hin:=qZc hx
 obtain ⟨⟨r0,r1⟩,⟨a0,a1⟩,⟨b0,b1⟩⟩:=hx
 refine EN m330 Try.func106 ?_
 unfold m330
 simp only [go_sem,seval]
 repeat refine K ?_
 refine CA [] (qDn x) ?_
 try simp only [go_sem,seval]
 repeat refine K ?_
 try simp only [go_sem,seval]
 repeat refine K ?_
 refine wJ (ι:=Nat) (fun j=>.mk [(1,.sl .bw 2 (yP k)),(2,.ptr 10 0 0),(5,.ns 12 0 k.length),(12,.ns 13 0 (vP x).length),(13,.int .i64 (vP x).length),(14,.int .i64 j)] [(10,5,[dL x]),(12,2,yP (oM ((vP x).take j) k)),(13,1,wR (vP x))] 14) (fun j=>j≤(vP x).length) (fun j=>(vP x).length-j) 0 (by simp) ?_ ?_
 ·refine Sub.shape [] id (by omega) ?_ ?_ ?_ ?_<;>simp [qL]
  all_goals simp [oM,yP]
 ·intro j hj
  have hsl:=qA8 ((vP x).take j) k
  simp only [go_sem,seval]
  refine qX (fun hc=>?_) (fun hc=>?_)
  ·simp only [decide_eq_true_eq] at hc
   have hj':j<(vP x).length:=by omega
   obtain ⟨q0,q1⟩:=hin _ (yL (vP x) j 0 hj')
   have hst:=qPn (vP x) k j hj'
   have hg:=zB (oM ((vP x).take j) k) ((vP x).getD j 0).toNat (by omega)
   simp only [go_sem,seval,qJ (vP x) j hj',hsl,hg,aM,qV (i:=j) (by omega)]
   repeat refine K ?_
   refine qT (j+1) (Sub.shape [] id (by omega) ?_ ?_ ?_ ?_) hj' (by omega)<;>simp [qL]
   all_goals (rw [hst])
   all_goals (try simp [yP])
  ·simp only [decide_eq_false_iff_not] at hc
   have he:(vP x).take j=vP x:=wD1 (by omega)
   rw [he] at hsl⊢
   rw [qVj]
   generalize hss:oM (vP x) k=o at hsl
   have gr:=zB o x.r.toNat (by omega)
   have ga:=zB k x.a.toNat (by omega)
   have gb:=zB k x.b.toNat (by omega)
   by_cases h1:x.op=1
   ·simp only [go_sem,seval,h1,hsl,gr,aM]
    repeat refine K ?_
    refine ⟨_,Sub.refl _,wG ?_⟩; simp [-wEc]
    all_goals (try simp [h1,aM,hsl])
   rw [if_neg h1]
   cases h3:oG x.op
   ·have n2 :¬x.op=2:=fun e=>by rw [(zL x.op).2 (by omega)] at h3; simp at h3
    have n3 :¬x.op=3:=fun e=>by rw [(zL x.op).2 (by omega)] at h3; simp at h3
    have n4 :¬x.op=4:=fun e=>by rw [(zL x.op).2 (by omega)] at h3; simp at h3
    simp only [go_sem,seval,h1,n2,n3,n4,hsl]
    repeat refine K ?_
    refine ⟨_,Sub.refl _,wG ?_⟩; simp [-wEc]
    all_goals (try simp [hsl])
   have h3':=(zL x.op).1 h3
   have e:(if (true&&(k.getD x.a.toNat default).is_&&(k.getD x.b.toNat default).is_)=true then o.set x.r.toNat ⟨true,uX x.op (k.getD x.a.toNat default).v (k.getD x.b.toNat default).v⟩ else o)=(if (k.getD x.a.toNat default).is_ then if (k.getD x.b.toNat default).is_ then o.set x.r.toNat ⟨true,uX x.op (k.getD x.a.toNat default).v (k.getD x.b.toNat default).v⟩ else o else o):=by
    cases (k.getD x.a.toNat default).is_<;>cases (k.getD x.b.toNat default).is_<;>rfl
   rw [e]
   clear e
   generalize k.getD x.a.toNat default=ka at ga
   generalize k.getD x.b.toNat default=kb at gb
   have hcp:=iP x.op ka.v kb.v
   generalize uX x.op ka.v kb.v=cv at hcp
   rcases h3' with h2 | h2 | h2
   all_goals
    rw [h2] at hcp
    cases ia:ka.is_
    ·try simp only [go_sem,seval,h1,h2,ga,hsl,ia]
     repeat refine K ?_
     refine ⟨_,Sub.refl _,wG ?_⟩; simp [-wEc]
     all_goals (try simp [hsl])
    try simp only [go_sem,seval,h1,h2,ga,hsl,ia]
    repeat refine K ?_
    cases ib:kb.is_
    ·try simp only [go_sem,seval,gb,hsl,ib]
     repeat refine K ?_
     refine ⟨_,Sub.refl _,wG ?_⟩; simp [-wEc]
     all_goals (try simp [hsl])
    try simp only [go_sem,seval,ga,gb,hsl,ib]
    repeat refine K ?_
    refine DA [] (hcp) ?_
    try simp only [go_sem,seval]
    repeat refine K ?_
    try simp only [go_sem,seval,hsl,gr,aM]
    repeat refine K ?_
    refine ⟨_,Sub.refl _,wG ?_⟩; simp [-wEc]
    all_goals (try simp [aM,hsl])
theorem qG7 :∀(k o:KV) (i:Nat),i<k.length→i<o.length→vJ (k.take (i+1)) o++k.drop (i+1)=(vJ (k.take i) o++k.drop i).set i (cM (k.getD i default) (o.getD i default))
 | [],_,i,h,_=>by simp at h
 | _::_,[],i,_,h=>by simp at h
 | a::l,b::k,0,_,_=>by simp [vJ]
 | a::l,b::k,i+1,h,g=>by
  have ih:=qG7 l k i (by simpa using h) (by simpa using g)
  simp only [wEp,vJ,List.drop_succ_cons,List.cons_append,List.set_cons_succ,wEo] at ih⊢
  rw [ih]
theorem qGd :∀(k o:KV) (i:Nat),i<k.length→i<o.length→cP (k.take (i+1)) o=(cP (k.take i) o||qAs (k.getD i default) (o.getD i default))
 | [],_,i,h,_=>by simp at h
 | _::_,[],i,_,h=>by simp at h
 | a::l,b::k,0,_,_=>by simp [cP]
 | a::l,b::k,i+1,h,g=>by
  have ih:=qGd l k i (by simpa using h) (by simpa using g)
  simp only [wEp,cP,wEo] at ih⊢
  rw [ih,Bool.or_assoc]
theorem qU7 (k o:KV) (i:Nat) (h:i<k.length):(vJ (k.take i) o++k.drop i).getD i default=k.getD i default:=by
 have hl:(vJ (k.take i) o).length=i:=by rw [bV,wCl]; omega
 rw [wCu,List.getElem?_append_right (by omega),hl]
 simp [wCu]
theorem qNj (k o:KV) (i:Nat) (h:i≤k.length):(vJ (k.take i) o++k.drop i).length=k.length:=by
 rw [List.length_append,bV,wCl,List.length_drop]
 omega
theorem qWc (l:KV) (i:Nat) (h:i<l.length):l.set i (l.getD i default)=l:=by
 rw [wCu,List.getElem?_eq_getElem h,Option.getD_some,List.set_getElem_self]
theorem qO6 (k o:KV) (hk:k.length<2^40) (ho:o.length=k.length):wD Try.prog num 331 [.ns 0 0 k.length,.sl .bw 2 (yP o)] [(0,some (2,yP k),some (2,yP (vJ k o)))] (.bool (cP k o)):=by
 refine EH m331 Try.func107 (hh:=by refine nG _ _ _ _ ((tG _).2 trivial) (by decide) ?_<;>simp [iH]) ?_
 unfold m331
 simp only [go_sem,seval]
 repeat refine K ?_
 refine wJ (ι:=Nat) (fun i=>.mk [(0,.ns 0 0 k.length),(1,.sl .bw 2 (yP o)),(5,.bool (cP (k.take i) o)),(8,.ns 0 0 k.length),(9,.int .i64 k.length),(10,.int .i64 i)] [(0,2,yP (vJ (k.take i) o++k.drop i))] 10) (fun i=>i≤k.length) (fun i=>k.length-i) 0 (by simp) ?_ ?_
 ·refine Sub.shape [] id (by omega) ?_ ?_ ?_ ?_<;>simp [qL]
  all_goals simp [vJ,cP]
 ·intro i hi
  have hml:=qNj k o i hi
  have e1:=qG7 k o i
  have e2:=qGd k o i
  have hg0:=qU7 k o i
  generalize hR:vJ (k.take i) o++k.drop i=R at hml e1 hg0
  simp only [go_sem,seval,hml]
  refine qX (fun hc=>?_) (fun hc=>?_)
  ·simp only [decide_eq_true_eq] at hc
   have hl':i<k.length:=by omega
   have hj:i<o.length:=by omega
   have hg:=zB R i (by omega)
   rw [hg0 hl'] at hg
   have hgo:=zB o i hj
   have e1':=e1 hl' hj
   have e2':=e2 hl' hj
   have hsame:=qWc R i (by omega)
   rw [hg0 hl'] at hsame
   generalize k.getD i default=a at hg e1' e2' hsame
   generalize o.getD i default=b at hgo e1' e2'
   obtain ⟨ai,av⟩:=a
   obtain ⟨bi,bv⟩:=b
   have hws:=qV (i:=i) (by omega)
   cases ai
   ·have em:cM ⟨false,av⟩ ⟨bi,bv⟩=⟨false,av⟩:=rfl
    have el:qAs ⟨false,av⟩ ⟨bi,bv⟩=false:=rfl
    rw [em,hsame] at e1'
    rw [el,Bool.or_false] at e2'
    simp only [go_sem,seval,hg,hml,hws]
    repeat refine K ?_
    refine qT (i+1) ?_ hl' (by omega)
    rw [e1',e2']
    refine Sub.shape [] id (by omega) ?_ ?_ ?_ ?_<;>simp [qL]
   by_cases hab:bi=true∧av=bv
   ·obtain ⟨rfl,rfl⟩:=hab
    have em:cM ⟨true,av⟩ ⟨true,av⟩=⟨true,av⟩:=by simp [cM]
    have el:qAs ⟨true,av⟩ ⟨true,av⟩=false:=by simp [qAs]
    rw [em,hsame] at e1'
    rw [el,Bool.or_false] at e2'
    simp only [go_sem,seval,hg,hgo,hml,hws]
    repeat refine K ?_
    refine qT (i+1) ?_ hl' (by omega)
    rw [e1',e2']
    refine Sub.shape [] id (by omega) ?_ ?_ ?_ ?_<;>simp [qL]
   ·have hor:bi=false∨¬av=bv:=by
     cases bi
     ·exact .inl rfl
     ·exact .inr fun h=>hab ⟨rfl,h⟩
    have em:cM ⟨true,av⟩ ⟨bi,bv⟩=⟨false,0⟩:=by
     unfold cM
     rw [if_pos]
     ·rfl
     ·simpa using hor
    have el:qAs ⟨true,av⟩ ⟨bi,bv⟩=true:=by
     unfold qAs
     simpa using hor
    have hbd:(true==bi&&decide (av=bv))=false:=by
     rcases hor with h | h<;>simp [h]
    rw [em] at e1'
    rw [el,Bool.or_true] at e2'
    simp only [go_sem,seval,hg,hgo,hml,hws,hbd,aM]
    repeat refine K ?_
    refine qT (i+1) ?_ hl' (by omega)
    rw [e1',e2']
    refine Sub.shape [] id (by omega) ?_ ?_ ?_ ?_<;>simp [qL]
  ·simp only [decide_eq_false_iff_not] at hc
   have he:k.take i=k:=wD1 (by omega)
   have hd:k.drop i=[]:=List.drop_eq_nil_of_le (by omega)
   rw [he,hd,List.append_nil] at hR
   simp only [go_sem,seval,he]
   repeat refine K ?_
   refine fz ?_; simp [yS,wL,wM,wV,-wEc]
   all_goals (try rw [hR])
def zV (x:Ins) (k:KV) (next:Int):Ins :=
 if k.length=4∧qR x.a 0 3=true∧qR x.b 0 3=true then
  if oG x.op&&(k.getD x.a.toNat default).is_&&(k.getD x.b.toNat default).is_&&qR (uX x.op (k.getD x.a.toNat default).v (k.getD x.b.toNat default).v) (-1000000000) 1000000000 then ⟨1,x.r,0,0,uX x.op (k.getD x.a.toNat default).v (k.getD x.b.toNat default).v⟩
  else if x.op=12∧(k.getD x.a.toNat default).is_=true then if (k.getD x.a.toNat default).v=0 then ⟨11,0,0,0,x.n⟩ else ⟨11,0,0,0,next⟩
  else x
 else x
theorem tI {x:Ins} {k:KV} (h4:k.length=4) (ha:qR x.a 0 3=true) (hb:qR x.b 0 3=true) (next:Int):zV x k next =
  if oG x.op&&(k.getD x.a.toNat default).is_&&(k.getD x.b.toNat default).is_&&qR (uX x.op (k.getD x.a.toNat default).v (k.getD x.b.toNat default).v) (-1000000000) 1000000000 then ⟨1,x.r,0,0,uX x.op (k.getD x.a.toNat default).v (k.getD x.b.toNat default).v⟩
  else if x.op=12∧(k.getD x.a.toNat default).is_=true then if (k.getD x.a.toNat default).v=0 then ⟨11,0,0,0,x.n⟩ else ⟨11,0,0,0,next⟩
  else x:=by
 unfold zV
 rw [if_pos ⟨h4,ha,hb⟩]
theorem pO {x:Ins} {k:KV} (h :¬(k.length=4∧qR x.a 0 3=true∧qR x.b 0 3=true)) (next:Int):zV x k next=x:=by
 unfold zV
 rw [if_neg h]
theorem qGq (x:Ins) (k:KV) (next:Int) (hk:k.length<2^40):wD Try.prog num 292 [.agg (dL x),.sl .bw 2 (yP k),.int .i64 next] [] (.agg (dL (zV x k next))):=by
 refine EN m292 Try.func96 ?_
 unfold m292
 simp only [go_sem,seval]
 repeat refine K ?_
 by_cases h4:(k.length:Int)=4
 case neg =>
  have hf:=pO (x:=x) (k:=k) (fun h=>h4 (by omega)) next
  rw [hf]
  try simp only [go_sem,seval,h4]
  repeat refine K ?_
  refine fz ?_; simp [yS,wL,wM,wV,-wEc]
 have h4':k.length=4:=by omega
 try simp only [go_sem,seval,h4]
 repeat refine K ?_
 refine CA [] (qAw x.a) ?_
 try simp only [go_sem,seval]
 repeat refine K ?_
 cases ha:qR x.a 0 3
 ·have hf:=pO (x:=x) (k:=k) (fun h=>by rw [ha] at h; simp at h) next
  rw [hf]
  try simp only [go_sem,seval,ha]
  repeat refine K ?_
  refine fz ?_; simp [yS,wL,wM,wV,-wEc]
 try simp only [go_sem,seval,ha]
 repeat refine K ?_
 refine CA [] (qAw x.b) ?_
 try simp only [go_sem,seval]
 repeat refine K ?_
 cases hb:qR x.b 0 3
 ·have hf:=pO (x:=x) (k:=k) (fun h=>by rw [hb] at h; simp at h) next
  rw [hf]
  try simp only [go_sem,seval,hb]
  repeat refine K ?_
  refine fz ?_; simp [yS,wL,wM,wV,-wEc]
 have hf:=tI h4' ha hb next
 have ha':=qK.1 ha
 have hb':=qK.1 hb
 have ga:=zB k x.a.toNat (by omega)
 have gb:=zB k x.b.toNat (by omega)
 generalize zV x k next=R at hf
 have hcp:=iP x.op (k.getD x.a.toNat default).v (k.getD x.b.toNat default).v
 generalize k.getD x.a.toNat default=ka at ga hcp hf
 generalize k.getD x.b.toNat default=kb at gb hcp hf
 generalize uX x.op ka.v kb.v=cv at hcp hf
 obtain ⟨ia,va⟩:=ka
 obtain ⟨ib,vb⟩:=kb
 simp only at ga gb hcp hf
 cases ia
 ·have hR:R=x:=by rw [hf]; simp
  rw [hR]
  try simp only [go_sem,seval,hb,ga]
  repeat refine K ?_
  refine fz ?_; simp [yS,wL,wM,wV,-wEc]
 try simp only [go_sem,seval,hb,ga,gb]
 repeat refine K ?_
 refine ⟨?_,?_⟩
 all_goals
  repeat refine K ?_
  cases h3:oG x.op
  ·have n2 :¬x.op=2:=fun e=>by rw [(zL x.op).2 (by omega)] at h3; simp at h3
   have n3 :¬x.op=3:=fun e=>by rw [(zL x.op).2 (by omega)] at h3; simp at h3
   have n4 :¬x.op=4:=fun e=>by rw [(zL x.op).2 (by omega)] at h3; simp at h3
   by_cases h12:x.op=12
   ·by_cases hv:va=0
    ·have hR:R=⟨11,0,0,0,x.n⟩:=by rw [hf,h3]; simp [h12,hv]
     rw [hR]
     try simp only [go_sem,seval,h12,hv]
     repeat refine K ?_
     refine fz ?_; simp [yS,wL,wM,wV,-wEc]
    ·have hR:R=⟨11,0,0,0,next⟩:=by rw [hf,h3]; simp [h12,hv]
     rw [hR]
     try simp only [go_sem,seval,h12,hv]
     repeat refine K ?_
     refine fz ?_; simp [yS,wL,wM,wV,-wEc]
   ·have hR:R=x:=by rw [hf]; simp [h3,h12]
    rw [hR]
    try simp only [go_sem,seval,n2,n3,n4,h12]
    repeat refine K ?_
    refine fz ?_; simp [yS,wL,wM,wV,-wEc]
  have h3':=(zL x.op).1 h3
  have n12 :¬x.op=12:=by omega
  have hcf:ib=false∨qR cv (-1000000000) 1000000000=false→R=x:=fun h=>by
   rw [hf]
   rcases h with h | h<;>simp [h,n12]
  rcases h3' with h2 | h2 | h2
  all_goals
   rw [h2] at hcp
   try simp only [go_sem,seval,h2]
   repeat refine K ?_
   refine CA [] (hcp) ?_
   try simp only [go_sem,seval]
   repeat refine K ?_
   try simp only [go_sem,seval,h2]
   repeat refine K ?_
   cases hib:ib
   ·have hR:=hcf (.inl hib)
    rw [hR]
    try simp only [go_sem,seval,h2,hib]
    repeat refine K ?_
    refine fz ?_; simp [yS,wL,wM,wV,-wEc]
    all_goals (try simp [h2])
   try simp only [go_sem,seval,h2,hib]
   repeat refine K ?_
   refine CA [] (uF cv (-1000000000) 1000000000) ?_
   try simp only [go_sem,seval]
   repeat refine K ?_
   cases hw:qR cv (-1000000000) 1000000000
   ·have hR:=hcf (.inr hw)
    rw [hR]
    try simp only [go_sem,seval,h2,hib,hw]
    repeat refine K ?_
    refine fz ?_; simp [yS,wL,wM,wV,-wEc]
    all_goals (try simp [h2])
   have hR:R=⟨1,x.r,0,0,cv⟩:=by rw [hf]; simp [h3,hib,hw]
   rw [hR]
   try simp only [go_sem,seval,h2,hib,hw]
   repeat refine K ?_
   refine fz ?_; simp [yS,wL,wM,wV,-wEc]
end Go.Sep
