/- Contracts of functions. -/
import Derived.Test.YtebbppogicgpkaaGreatSxx1
namespace Go.Sep
set_option maxHeartbeats 16000000
open Go.Proofs
set_option linter.unusedSimpArgs false
set_option linter.unusedVariables false
set_option maxRecDepth 100000
def m69:MFn:=⟨6,[.t 2],kr [xo 2 (.mv (.c (.nil)))] (kR [xo 3 (.mkSl [xz,xz] 0 []),xv 4 0,xA 5 2 16 3 4,xv 2 5])⟩
def m70:MFn:=⟨8,[.cell 2 3 true],kr [xb 1 0,xo 2 (.alloc [.int .i64 0,.nil,.bool false])] (kr [xa 3 1 1,xl 4 3,xc1 5 36 (.t 4),xa 6 1 1,xS 1 6 5] (kR [xm 7 3 1,xS 3 2 7]))⟩
def m72:MFn:=⟨14,[.t 2],kr [xb 1 0,xF 2] (kR [xa 3 0 1,xl 4 3,xc3 5 59 (.t 4) (xi 1) (xi 4),xv 6 5,ya 7 1 1 6,yl 8 1 7 6,ye 9 8 6,ya 10 0 1 6,yl 11 1 10 6,xg 12 (.bin .leq (.t 9) (.t 11)) 6 true,xP 13 6 12,xv 2 13])⟩
attribute [local go_sem] fV vG qRj qRl qEb qKa qRm qK8 qRk qKe qEa qKf qK9 yC qDk pO Arg.ev wL dE qSq if_false if_true zY put del dL qBh Option.map_some Option.bind_some qY Int.toNat_natCast qRn qK7 qKb dW true_and and_true qA4 qA2 qA3 lM iO Bool.false_eq_true fH cellsOf vC List.isEmpty_nil List.isEmpty_cons fresh List.map_nil List.map_cons List.cons_append List.nil_append dI List.take_zero List.drop_zero List.take_succ_cons List.getD_cons_zero List.length_cons List.length_nil List.drop_succ_cons List.drop_nil List.append_nil List.all_cons List.all_nil jP Bool.and_self Nat.zero_add qKc qKd qK6 qE9 qE8 qE6 qE7 qKg qRi nG qAj pZ qF7 qFe qEq vX vZ eC qEp cZ jG apart List.filter_nil List.filter_cons Option.isSome_some Option.isSome_none List.contains_nil List.contains_cons List.forall_mem_cons List.mem_cons List.not_mem_nil false_implies implies_true forall_const forall_eq_or_imp forall_eq or_false beq_self_eq_true Bool.or_false Bool.false_or Bool.true_or Bool.or_true Bool.not_true Bool.not_false xv xo xg xr xi xz List.set_set nA lG pX pY tF mC qE5 sJ mQ eqC cS lC List.replicate_zero decide_true decide_false pU qA0 List.replicate_succ Int.toNat_zero Int.toNat_one eq_self Bool.and_true Bool.true_and Bool.and_false Bool.false_and List.set_cons_zero List.set_cons_succ List.getD_cons_succ rnm ixm jQ xE yJ vN cond_true cond_false eR eQ fP
attribute [local simp] iI bwT bwC bwL gA eQ wL Arg.ev gP tJ rD qEn aX sA lZ yT okV okL nb nbs nbr bR qY dL bnd vK jT jQ xE ixm rnm apart cZ vX vZ fresh yJ vN dJ qEo dO iT vU del tD aK eR fP shp okB pM pV
theorem dA (m:Mode) (l:List bW) (i:Nat) (h:i<l.length):(wW m l).getD i []=[.int .i64 (l.getD i default).cap,.sl m 1 (wN (l.getD i default).list),.bool (l.getD i default).closed]:=by simp [wW,aL,List.getD_eq_getElem?_getD,h]
theorem wI (m:Mode) (l:List vB) (i:Nat) (h:i<l.length):(jH m l).getD i []=[.int .i64 (l.getD i default).at_,.sl m 1 (wN (l.getD i default).regs),.int .i64 (l.getD i default).st]:=by simp [jH,lX,List.getD_eq_getElem?_getD,h]
theorem qEg (l:List xJ) (hx:16*l.length≤2^47):qW Tryz.prog num 69 [.sl .bw 2 (jK l)] [] (.sl .own 2 (jK l)):=by
 refine EN m69 Tryz.func142 ?_
 unfold m69
 simp only [go_sem,seval]
 repeat refine K ?_
 refine fz ?_; simp [qZ,qU,qV,qQ,-List.drop_one]
theorem oF (c:bW) (hx:8*c.list.length≤2^47):qW Tryz.prog num 70 [.agg (aL .bw c)] [] (.agg (aL .own c)):=by
 refine EN m70 Tryz.func144 ?_
 unfold m70
 simp only [go_sem,seval]
 refine CA [] (zJ c.list hx) ?_
 try simp only [go_sem,seval]
 refine fz ?_; simp [qZ,qU,qV,qQ,-List.drop_one]
theorem kO (c:bW):qW Tryz.prog num 72 [.agg (aL .bw c)] [] (.bool (uO c)):=by
 refine EN m72 Tryz.func145 ?_
 unfold m72
 simp only [go_sem,seval]
 refine CA [] (yE c.cap 1 4) ?_
 try simp only [go_sem,seval]
 cases h:qP c.cap 1 4
 ·simp only [go_sem,seval,h]
  refine fz ?_; simp [qZ,qU,qV,qQ,-List.drop_one]
  simp [uO,h]
 ·simp only [go_sem,seval,h]
  refine fz ?_; simp [qZ,qU,qV,qQ,-List.drop_one]
  simp [uO,h]
def m79:MFn:=⟨33,[.cell 4 3 true,.t 5],kr [xb 2 0,xo 4 (.alloc [.int .i64 0,.nil,.bool false]),xI 5 0] (kr [xm 7 3 2,xc1 8 70 (.t 7),xo 6 (.alloc [.int .i64 0,.nil,.bool false]),xS 3 6 8] (.seq (.blk 0 (kr [xa 10 2 2,xl 11 10,xv 12 11,xg 13 (.load 3 true (.t 2)) 12 false,xg 14 (.call 72 [false] [.t 13]) 12 false,zN 15 14 12,xQ 16 12 15,xv 9 16] (.cond 9 (kR [xm 17 3 6,xS 3 4 17,xI 5 2]) (kr [xa 19 1 2,xl 20 19,xe 21 20,xa 22 0 2,xl 23 22,bT 24 .eql 21 23,xv 18 24] (kF 18 [xm 25 3 6,xS 3 4 25,xI 5 1]))))) (kr [xa 26 1 6,xl 27 26,xv 28 1,xo 29 (.mkSl [xz] 1 [(0,.t 28)]),xA 30 1 8 27 29,xa 31 1 6,xS 1 31 30] (kR [xm 32 3 6,xS 3 4 32,xI 5 0]))))⟩
def m80:MFn:=⟨32,[.cell 2 3 true,.t 3,.t 4],kr [xb 1 0,xo 2 (.alloc [.int .i64 0,.nil,.bool false]),xI 3 0,xI 4 0] (kr [xm 6 3 1,xc1 7 70 (.t 6),xo 5 (.alloc [.int .i64 0,.nil,.bool false]),xS 3 5 7] (.seq (.blk 0 (kr [xm 9 3 1,xc1 10 72 (.t 9),xN 11 10,xv 8 11] (.cond 8 (kR [xm 12 3 5,xS 3 2 12,xI 3 0,xI 4 2]) (kr [xa 14 1 1,xl 15 14,xe 16 15,bI 17 .gtr 16 0,xv 13 17] (.cond 13 (kr [xa 18 1 5,xl 19 18,xo 20 (.cut 1 (.t 19) (some (xi 1)) none),xa 21 1 5,xS 1 21 20] (.seq (.dreg (.take 0 (xm 22 3 5) (.take 1 (xa 23 1 1) (.take 2 (xl 24 23) (.take 3 (xo 25 (.iad 1 (.t 24) (xi 0))) (.take 4 (xl 26 25) (.only 5 [0] (xS 3 2 22) (.only 6 [0,1,2,3,4] (xv 3 26) (.only 7 [0,1,2,3,4] (xI 4 0) (.done)))))))))) (.ret))) (kr [xa 28 2 1,xl 29 28,xv 27 29] (kF 27 [xm 30 3 5,xS 3 2 30,xI 3 0,xI 4 3]))))))) (kR [xm 31 3 5,xS 3 2 31,xI 3 0,xI 4 1])))⟩
def m81:MFn:=⟨17,[.cell 2 3 true,.t 3],kr [xb 1 0,xo 2 (.alloc [.int .i64 0,.nil,.bool false]),xI 3 0] (kr [xm 5 3 1,xc1 6 70 (.t 5),xo 4 (.alloc [.int .i64 0,.nil,.bool false]),xS 3 4 6] (.seq (kr [xa 7 2 1,xl 8 7,xv 9 8,xg 10 (.load 3 true (.t 1)) 9 false,xg 11 (.call 72 [false] [.t 10]) 9 false,zN 12 11 9,xQ 13 9 12] (kF 13 [xm 14 3 4,xS 3 2 14,xI 3 2])) (kr [xa 15 2 4,⟨none,.store 1 (.t 15) (.c (.bool true)),none⟩] (kR [xm 16 3 4,xS 3 2 16,xI 3 0]))))⟩
theorem fQ (c:bW) (v:Int) (hx:8*c.list.length<2^46):qW Tryz.prog num 79 [.agg (aL .bw c),.int .i64 v] [] (.tup [.agg (aL .own (jE c v).1),.int .i64 (jE c v).2]):=by
 refine EN m79 Tryz.func186 ?_
 unfold m79
 simp only [go_sem,seval]
 refine CA [] (oF c (by omega)) ?_
 try simp only [go_sem,seval]
 cases hc:c.closed
 ·simp only [go_sem,seval,hc]
  refine CA [] (kO c) ?_
  try simp only [go_sem,seval]
  cases ho:uO c
  ·simp only [go_sem,seval,ho,hc]
   refine fz ?_; simp [qZ,qU,qV,qQ,-List.drop_one]
   simp [jE,hc,ho]
  ·simp only [go_sem,seval,ho,hc]
   by_cases hl:(c.list.length:Int)=c.cap
   ·simp only [go_sem,seval,hl]
    refine fz ?_; simp [qZ,qU,qV,qQ,-List.drop_one]
    simp [jE,hc,ho,hl]
   ·simp only [go_sem,seval,hl]
    repeat refine K ?_
    refine fz ?_; simp [qZ,qU,qV,qQ,-List.drop_one]
    simp [jE,hc,ho,hl,wN]
 ·simp only [go_sem,seval,hc]
  refine fz ?_; simp [qZ,qU,qV,qQ,-List.drop_one]
  simp [jE,hc]
theorem tE (c:bW) (hx:8*c.list.length<2^46):qW Tryz.prog num 80 [.agg (aL .bw c)] [] (.tup [.agg (aL .own (yG c).1),.int .i64 (yG c).2.1,.int .i64 (yG c).2.2]):=by
 refine EN m80 Tryz.func187 ?_
 unfold m80
 simp only [go_sem,seval]
 refine CA [] (oF c (by omega)) ?_
 try simp only [go_sem,seval]
 refine CA [] (kO c) ?_
 try simp only [go_sem,seval]
 cases ho:uO c
 ·simp only [go_sem,seval,ho]
  refine fz ?_; simp [qZ,qU,qV,qQ,-List.drop_one]
  simp [yG,ho]
 ·simp only [go_sem,seval,ho]
  by_cases hl:(0:Int)<c.list.length
  ·have hl':0<c.list.length:=by omega
   simp only [go_sem,seval,hl,qI c.list 0 hl']
   repeat refine K ?_
   refine fz ?_; simp [qZ,qU,qV,qQ,-List.drop_one]
   simp [yG,ho,hl']<;>try omega
  ·have hl' :¬0<c.list.length:=by omega
   simp only [go_sem,seval,hl]
   cases hc:c.closed
   ·simp only [go_sem,seval,hc]
    refine fz ?_; simp [qZ,qU,qV,qQ,-List.drop_one]
    simp [yG,ho,hl',hc]
   ·simp only [go_sem,seval,hc]
    refine fz ?_; simp [qZ,qU,qV,qQ,-List.drop_one]
    simp [yG,ho,hl',hc]
theorem qFv (c:bW) (hx:8*c.list.length<2^46):qW Tryz.prog num 81 [.agg (aL .bw c)] [] (.tup [.agg (aL .own (bC c).1),.int .i64 (bC c).2]):=by
 refine EN m81 Tryz.func188 ?_
 unfold m81
 simp only [go_sem,seval]
 refine CA [] (oF c (by omega)) ?_
 try simp only [go_sem,seval]
 cases hc:c.closed
 ·simp only [go_sem,seval,hc]
  refine CA [] (kO c) ?_
  try simp only [go_sem,seval]
  cases ho:uO c
  ·simp only [go_sem,seval,ho]
   refine fz ?_; simp [qZ,qU,qV,qQ,-List.drop_one]
   simp [bC,hc,ho]
  ·simp only [go_sem,seval,ho]
   refine fz ?_; simp [qZ,qU,qV,qQ,-List.drop_one]
   simp [bC,hc,ho]
 ·simp only [go_sem,seval,hc]
  refine fz ?_; simp [qZ,qU,qV,qQ,-List.drop_one]
  simp [bC,hc]
end Go.Sep
