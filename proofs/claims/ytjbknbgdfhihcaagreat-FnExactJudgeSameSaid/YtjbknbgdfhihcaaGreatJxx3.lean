/- Contracts of functions. -/
import Derived.Test.YtjbknbgdfhihcaaGreatJxx1
import Derived.Test.YtjbknbgdfhihcaaGreatJxx2
namespace Go.Sep
set_option maxHeartbeats 16000000
open Go.Proofs
set_option linter.unusedSimpArgs false
set_option linter.unusedVariables false
set_option maxRecDepth 100000
open Nat renaming reduceAdd → qA, reduceMul → qB, reduceEqDiff → qC, reduceBEq → qD
open Int renaming reduceToNat → qE, reduceEq → qF, reduceLT → qG, reduceLE → qH
open List renaming getD_eq_getElem?_getD → gD
def m69:MFn:=⟨6,[.t 2],kr [xo 2 (.mv (.c (.nil)))] (kR [xo 3 (.mkSl [xz,xz] 0 []),xv 4 0,xA 5 2 16 3 4,xv 2 5])⟩
def m70:MFn:=⟨8,[.cell 2 3 true],kr [xb 1 0,xo 2 (.alloc [.int .i64 0,.nil,.bool false])] (kr [xa 3 1 1,xl 4 3,xc1 5 36 (.t 4),xa 6 1 1,xS 1 6 5] (kR [xm 7 3 1,xS 3 2 7]))⟩
def m84:MFn:=⟨12,[.cell 2 3 true],kr [xb 1 0,xo 2 (.alloc [.int .i64 0,.nil,.bool false])] (.seq (.dreg (.take 0 (xa 3 0 1) (.take 1 (xl 4 3) (.take 3 (xa 6 1 1) (.take 4 (xl 7 6) (.take 6 (xa 9 2 1) (.take 7 (xl 10 9) (.only 2 [] (xo 5 (.mkSl [xz] 0 [])) (.only 5 [4,3] (xA 8 1 8 5 7) (.only 8 [1,5,7,0,4,6,3] (xo 11 (.build [.int .i64 0,.nil,.bool false] [(0,1,.t 4),(1,1,.t 8),(2,1,.t 10)])) (.only 9 [0,1,3,4,6,7] (xS 3 2 11) (.done)))))))))))) (.ret))⟩
attribute [local go_sem] paramT preH e_seq e_reg e_block e_loop e_ops e_skip e_ret e_cond e_guard e_call e_ops1 plan next_ok next_some Arg.ev lookT putD putT if_false if_true app1 put del qBf binA Option.map_some Option.bind_some look Int.toNat_natCast e_blk e_stop e_exit exitIt true_and and_true maybe_do maybe_tf maybe_ft branch_true qE4 Bool.false_eq_true bnd? cellsOf openL List.isEmpty_nil List.isEmpty_cons fresh List.map_nil List.map_cons List.cons_append List.nil_append splice List.take_zero List.drop_zero List.take_succ_cons List.getD_cons_zero List.length_cons List.length_nil List.drop_succ_cons List.drop_nil List.append_nil List.all_cons List.all_nil cellOk Bool.and_self Nat.zero_add e_dreg e_done e_take e_only1 e_onlyc e_takeg e_onlyg e_both e_tri dnext_some dnext_ok dmaybe_do rdTake pdTake addP rdOnly pdOnly isRead alive needs undep apart List.filter_nil List.filter_cons Option.isSome_some Option.isSome_none List.contains_nil List.contains_cons List.forall_mem_cons List.mem_cons List.not_mem_nil false_implies implies_true forall_const forall_eq_or_imp forall_eq or_false beq_self_eq_true Bool.or_false Bool.false_or Bool.true_or Bool.or_true Bool.not_true Bool.not_false xv xo xg xr xi xz List.set_set maybe_skip dmaybe_skip dmaybe_tf dmaybe_ft fillR fillROk fillA fillOk srcA eqC bytesOf ints_append List.replicate_zero decide_true decide_false ints_set nil_bind List.replicate_succ Int.toNat_zero Int.toNat_one eq_self Bool.and_true Bool.true_and Bool.and_false Bool.false_and List.set_cons_zero List.set_cons_succ List.getD_cons_succ rnm ixm renV renL openV openVs cond_true cond_false qD5 qD4 qDu
attribute [local simp] hand bwT bwC bwL qC1 qD4 lookT Arg.ev handOk bwOk bwOks bwTs nf_sl nf_int nf_bool qAo okV okL nb nbs nbr qBy look qBf bnd bnds bndr renV renL ixm rnm apart needs rdOnly pdOnly fresh openV openVs resAV allP giveL giveV postH del isOwn partR qD5 qDu shp okB okBs ints_free
theorem copyNotes_ok (l:List Note) (hx:16*l.length≤2^47):CallOk Tryz.prog num 69 [.sl .bw 2 (notes l)] [] (.sl .own 2 (notes l)):=by
 refine EN m69 Tryz.func134 ?_
 unfold m69
 simp only [go_sem,seval]
 repeat refine K ?_
 refine fz ?_; simp [FinS,nilL,nilV,oneOr,-List.drop_one]
theorem copyChan_ok (c:Chan) (hx:8*c.list.length≤2^47):CallOk Tryz.prog num 70 [.agg (chanC .bw c)] [] (.agg (chanC .own c)):=by
 refine EN m70 Tryz.func257 ?_
 unfold m70
 simp only [go_sem,seval]
 repeat refine K ?_
 refine CA [] (qDy c.list hx) ?_
 try simp only [go_sem,seval]
 repeat refine K ?_
 refine fz ?_; simp [FinS,nilL,nilV,oneOr,-List.drop_one]
theorem l3Copy_ok (c:Chan) (hx:8*c.list.length≤2^47):CallOk Tryz.prog num 84 [.agg (chanC .bw c)] [] (.agg (chanC .own c)):=by
 refine EN m84 Tryz.func255 ?_
 unfold m84
 simp only [go_sem,seval]
 repeat refine K ?_
 refine fz ?_; simp [FinS,nilL,nilV,oneOr,-List.drop_one]
def m79:MFn:=⟨33,[.cell 4 3 true,.t 5],kr [xb 2 0,xo 4 (.alloc [.int .i64 0,.nil,.bool false]),xI 5 0] (kr [xm 7 3 2,xc1 8 70 (.t 7),xo 6 (.alloc [.int .i64 0,.nil,.bool false]),xS 3 6 8] (.seq (.blk 0 (kr [xa 10 2 2,xl 11 10,xv 12 11,xg 13 (.load 3 true (.t 2)) 12 false,xg 14 (.call 72 [false] [.t 13]) 12 false,zN 15 14 12,xQ 16 12 15,xv 9 16] (.cond 9 (kR [xm 17 3 6,xS 3 4 17,xI 5 2]) (kr [xa 19 1 2,xl 20 19,xe 21 20,xa 22 0 2,xl 23 22,bT 24 .eql 21 23,xv 18 24] (kF 18 [xm 25 3 6,xS 3 4 25,xI 5 1]))))) (kr [xa 26 1 6,xl 27 26,xv 28 1,xo 29 (.mkSl [xz] 1 [(0,.t 28)]),xA 30 1 8 27 29,xa 31 1 6,xS 1 31 30] (kR [xm 32 3 6,xS 3 4 32,xI 5 0]))))⟩
def m80:MFn:=⟨32,[.cell 2 3 true,.t 3,.t 4],kr [xb 1 0,xo 2 (.alloc [.int .i64 0,.nil,.bool false]),xI 3 0,xI 4 0] (kr [xm 6 3 1,xc1 7 70 (.t 6),xo 5 (.alloc [.int .i64 0,.nil,.bool false]),xS 3 5 7] (.seq (.blk 0 (kr [xm 9 3 1,xc1 10 72 (.t 9),xN 11 10,xv 8 11] (.cond 8 (kR [xm 12 3 5,xS 3 2 12,xI 3 0,xI 4 2]) (kr [xa 14 1 1,xl 15 14,xe 16 15,bI 17 .gtr 16 0,xv 13 17] (.cond 13 (kr [xa 18 1 5,xl 19 18,xo 20 (.cut 1 (.t 19) (some (xi 1)) none),xa 21 1 5,xS 1 21 20] (.seq (.dreg (.take 0 (xm 22 3 5) (.take 1 (xa 23 1 1) (.take 2 (xl 24 23) (.take 3 (xo 25 (.iad 1 (.t 24) (xi 0))) (.take 4 (xl 26 25) (.only 5 [0] (xS 3 2 22) (.only 6 [0,1,2,3,4] (xv 3 26) (.only 7 [0,1,2,3,4] (xI 4 0) (.done)))))))))) (.ret))) (kr [xa 28 2 1,xl 29 28,xv 27 29] (kF 27 [xm 30 3 5,xS 3 2 30,xI 3 0,xI 4 3]))))))) (kR [xm 31 3 5,xS 3 2 31,xI 3 0,xI 4 1])))⟩
def m81:MFn:=⟨17,[.cell 2 3 true,.t 3],kr [xb 1 0,xo 2 (.alloc [.int .i64 0,.nil,.bool false]),xI 3 0] (kr [xm 5 3 1,xc1 6 70 (.t 5),xo 4 (.alloc [.int .i64 0,.nil,.bool false]),xS 3 4 6] (.seq (kr [xa 7 2 1,xl 8 7,xv 9 8,xg 10 (.load 3 true (.t 1)) 9 false,xg 11 (.call 72 [false] [.t 10]) 9 false,zN 12 11 9,xQ 13 9 12] (kF 13 [xm 14 3 4,xS 3 2 14,xI 3 2])) (kr [xa 15 2 4,⟨none,.store 1 (.t 15) (.c (.bool true)),none⟩] (kR [xm 16 3 4,xS 3 2 16,xI 3 0]))))⟩
def m93:MFn:=⟨31,[.cell 4 3 true,.t 5],kr [xb 2 0,xo 4 (.alloc [.int .i64 0,.nil,.bool false]),xI 5 0] (kr [xm 7 3 2,xc1 8 84 (.t 7),xo 6 (.alloc [.int .i64 0,.nil,.bool false]),xS 3 6 8] (.seq (kr [xa 9 2 2,xl 10 9,xv 11 10,xg 12 (.load 3 true (.t 2)) 11 false,xg 13 (.call 83 [false] [.t 12]) 11 false,zN 14 13 11,xQ 15 11 14] (kF 15 [xm 16 3 6,xS 3 4 16,xI 5 2])) (.seq (kr [xa 17 1 2,xl 18 17,xe 19 18,xa 20 0 2,xl 21 20,bT 22 .eql 19 21] (kF 22 [xm 23 3 6,xS 3 4 23,xI 5 1])) (kr [xa 24 1 6,xl 25 24,xv 26 1,xo 27 (.mkSl [xz] 1 [(0,.t 26)]),xA 28 1 8 25 27,xa 29 1 6,xS 1 29 28] (kR [xm 30 3 6,xS 3 4 30,xI 5 0])))))⟩
def m94:MFn:=⟨17,[.cell 2 3 true,.t 3],kr [xb 1 0,xo 2 (.alloc [.int .i64 0,.nil,.bool false]),xI 3 0] (kr [xm 5 3 1,xc1 6 84 (.t 5),xo 4 (.alloc [.int .i64 0,.nil,.bool false]),xS 3 4 6] (.seq (kr [xa 7 2 1,xl 8 7,xv 9 8,xg 10 (.load 3 true (.t 1)) 9 false,xg 11 (.call 83 [false] [.t 10]) 9 false,zN 12 11 9,xQ 13 9 12] (kF 13 [xm 14 3 4,xS 3 2 14,xI 3 2])) (kr [xa 15 2 4,⟨none,.store 1 (.t 15) (.c (.bool true)),none⟩] (kR [xm 16 3 4,xS 3 2 16,xI 3 0]))))⟩
def m95:MFn:=⟨34,[.cell 2 3 true,.t 3,.t 4],kr [xb 1 0,xo 2 (.alloc [.int .i64 0,.nil,.bool false]),xI 3 0,xI 4 0] (kr [xm 6 3 1,xc1 7 84 (.t 6),xo 5 (.alloc [.int .i64 0,.nil,.bool false]),xS 3 5 7] (.seq (.blk 0 (kr [xm 9 3 1,xc1 10 83 (.t 9),xN 11 10,xv 8 11] (.cond 8 (kR [xm 12 3 5,xS 3 2 12,xI 3 0,xI 4 2]) (kr [xa 14 1 1,xl 15 14,xe 16 15,bI 17 .gtr 16 0,xv 13 17] (.cond 13 (kr [xo 18 (.mkSl [xz] 0 []),xa 19 1 1,xl 20 19,xo 21 (.cut 1 (.t 20) (some (xi 1)) none),xA 22 1 8 18 21,xa 23 1 5,xS 1 23 22] (.seq (.dreg (.take 0 (xm 24 3 5) (.take 1 (xa 25 1 1) (.take 2 (xl 26 25) (.take 3 (xo 27 (.iad 1 (.t 26) (xi 0))) (.take 4 (xl 28 27) (.only 5 [0] (xS 3 2 24) (.only 6 [0,1,2,3,4] (xv 3 28) (.only 7 [0,1,2,3,4] (xI 4 0) (.done)))))))))) (.ret))) (kr [xa 30 2 1,xl 31 30,xv 29 31] (kF 29 [xm 32 3 5,xS 3 2 32,xI 3 0,xI 4 3]))))))) (kR [xm 33 3 5,xS 3 2 33,xI 3 0,xI 4 1])))⟩
def chanSend (c:Chan) (v:Int):Chan×Int :=
 if c.closed||!chanOk c then (c,2) else if (c.list.length:Int)=c.cap then (c,1) else ({c with list:=c.list++[v]},0)
def chanTake (c:Chan):Chan×Int×Int :=
 if !chanOk c then (c,0,2) else if 0<c.list.length then ({c with list:=c.list.drop 1},c.list.getD 0 0,0) else if c.closed then (c,0,3) else (c,0,1)
def chanClose (c:Chan):Chan×Int:=if c.closed||!chanOk c then (c,2) else ({c with closed:=true},0)
theorem implChanSend_ok (c:Chan) (v:Int) (hx:8*c.list.length<2^46):CallOk Tryz.prog num 79 [.agg (chanC .bw c),.int .i64 v] [] (.tup [.agg (chanC .own (chanSend c v).1),.int .i64 (chanSend c v).2]):=by
 refine EN m79 Tryz.func264 ?_
 unfold m79
 simp only [go_sem,seval]
 repeat refine K ?_
 refine CA [] (copyChan_ok c (by omega)) ?_
 try simp only [go_sem,seval]
 repeat refine K ?_
 cases hc:c.closed
 ·simp only [go_sem,seval,hc]
  repeat refine K ?_
  refine CA [] (implChanOk_ok c) ?_
  try simp only [go_sem,seval]
  repeat refine K ?_
  cases ho:chanOk c
  ·simp only [go_sem,seval,ho,hc]
   repeat refine K ?_
   refine fz ?_; simp [FinS,nilL,nilV,oneOr,-List.drop_one]
   simp [chanSend,hc,ho]
  ·simp only [go_sem,seval,ho,hc]
   repeat refine K ?_
   by_cases hl:(c.list.length:Int)=c.cap
   ·simp only [go_sem,seval,hl]
    repeat refine K ?_
    refine fz ?_; simp [FinS,nilL,nilV,oneOr,-List.drop_one]
    simp [chanSend,hc,ho,hl]
   ·simp only [go_sem,seval,hl]
    repeat refine K ?_
    refine fz ?_; simp [FinS,nilL,nilV,oneOr,-List.drop_one]
    simp [chanSend,hc,ho,hl,ints]
 ·simp only [go_sem,seval,hc]
  repeat refine K ?_
  refine fz ?_; simp [FinS,nilL,nilV,oneOr,-List.drop_one]
  simp [chanSend,hc]
theorem implChanTake_ok (c:Chan) (hx:8*c.list.length<2^46):CallOk Tryz.prog num 80 [.agg (chanC .bw c)] [] (.tup [.agg (chanC .own (chanTake c).1),.int .i64 (chanTake c).2.1,.int .i64 (chanTake c).2.2]):=by
 refine EN m80 Tryz.func265 ?_
 unfold m80
 simp only [go_sem,seval]
 repeat refine K ?_
 refine CA [] (copyChan_ok c (by omega)) ?_
 try simp only [go_sem,seval]
 repeat refine K ?_
 refine CA [] (implChanOk_ok c) ?_
 try simp only [go_sem,seval]
 repeat refine K ?_
 cases ho:chanOk c
 ·simp only [go_sem,seval,ho]
  repeat refine K ?_
  refine fz ?_; simp [FinS,nilL,nilV,oneOr,-List.drop_one]
  simp [chanTake,ho]
 ·simp only [go_sem,seval,ho]
  repeat refine K ?_
  by_cases hl:(0:Int)<c.list.length
  ·have hl':0<c.list.length:=by omega
   simp only [go_sem,seval,hl,qA0 c.list 0 hl']
   repeat refine K ?_
   refine fz ?_; simp [FinS,nilL,nilV,oneOr,-List.drop_one]
   simp [chanTake,ho,hl']<;>try omega
  ·have hl' :¬0<c.list.length:=by omega
   simp only [go_sem,seval,hl]
   repeat refine K ?_
   cases hc:c.closed
   ·simp only [go_sem,seval,hc]
    repeat refine K ?_
    refine fz ?_; simp [FinS,nilL,nilV,oneOr,-List.drop_one]
    simp [chanTake,ho,hl',hc]
   ·simp only [go_sem,seval,hc]
    repeat refine K ?_
    refine fz ?_; simp [FinS,nilL,nilV,oneOr,-List.drop_one]
    simp [chanTake,ho,hl',hc]
theorem implChanClose_ok (c:Chan) (hx:8*c.list.length<2^46):CallOk Tryz.prog num 81 [.agg (chanC .bw c)] [] (.tup [.agg (chanC .own (chanClose c).1),.int .i64 (chanClose c).2]):=by
 refine EN m81 Tryz.func266 ?_
 unfold m81
 simp only [go_sem,seval]
 repeat refine K ?_
 refine CA [] (copyChan_ok c (by omega)) ?_
 try simp only [go_sem,seval]
 repeat refine K ?_
 cases hc:c.closed
 ·simp only [go_sem,seval,hc]
  repeat refine K ?_
  refine CA [] (implChanOk_ok c) ?_
  try simp only [go_sem,seval]
  repeat refine K ?_
  cases ho:chanOk c
  ·simp only [go_sem,seval,ho]
   repeat refine K ?_
   refine fz ?_; simp [FinS,nilL,nilV,oneOr,-List.drop_one]
   simp [chanClose,hc,ho]
  ·simp only [go_sem,seval,ho]
   repeat refine K ?_
   refine fz ?_; simp [FinS,nilL,nilV,oneOr,-List.drop_one]
   simp [chanClose,hc,ho]
 ·simp only [go_sem,seval,hc]
  repeat refine K ?_
  refine fz ?_; simp [FinS,nilL,nilV,oneOr,-List.drop_one]
  simp [chanClose,hc]
theorem specChanSend_ok (c:Chan) (v:Int) (hx:8*c.list.length<2^46):CallOk Tryz.prog num 93 [.agg (chanC .bw c),.int .i64 v] [] (.tup [.agg (chanC .own (chanSend c v).1),.int .i64 (chanSend c v).2]):=by
 refine EN m93 Tryz.func267 ?_
 unfold m93
 simp only [go_sem,seval]
 repeat refine K ?_
 refine CA [] (l3Copy_ok c (by omega)) ?_
 try simp only [go_sem,seval]
 repeat refine K ?_
 cases hc:c.closed
 ·simp only [go_sem,seval,hc]
  repeat refine K ?_
  refine CA [] (specChanOk_ok c) ?_
  try simp only [go_sem,seval]
  repeat refine K ?_
  cases ho:chanOk c
  ·simp only [go_sem,seval,ho,hc]
   repeat refine K ?_
   refine fz ?_; simp [FinS,nilL,nilV,oneOr,-List.drop_one]
   simp [chanSend,hc,ho]
  ·simp only [go_sem,seval,ho,hc]
   repeat refine K ?_
   by_cases hl:(c.list.length:Int)=c.cap
   ·simp only [go_sem,seval,hl]
    repeat refine K ?_
    refine fz ?_; simp [FinS,nilL,nilV,oneOr,-List.drop_one]
    simp [chanSend,hc,ho,hl]
   ·simp only [go_sem,seval,hl]
    repeat refine K ?_
    refine fz ?_; simp [FinS,nilL,nilV,oneOr,-List.drop_one]
    simp [chanSend,hc,ho,hl,ints]
 ·simp only [go_sem,seval,hc]
  repeat refine K ?_
  refine fz ?_; simp [FinS,nilL,nilV,oneOr,-List.drop_one]
  simp [chanSend,hc]
theorem specChanTake_ok (c:Chan) (hx:8*c.list.length<2^46):CallOk Tryz.prog num 95 [.agg (chanC .bw c)] [] (.tup [.agg (chanC .own (chanTake c).1),.int .i64 (chanTake c).2.1,.int .i64 (chanTake c).2.2]):=by
 refine EN m95 Tryz.func269 ?_
 unfold m95
 simp only [go_sem,seval]
 repeat refine K ?_
 refine CA [] (l3Copy_ok c (by omega)) ?_
 try simp only [go_sem,seval]
 repeat refine K ?_
 refine CA [] (specChanOk_ok c) ?_
 try simp only [go_sem,seval]
 repeat refine K ?_
 cases ho:chanOk c
 ·simp only [go_sem,seval,ho]
  repeat refine K ?_
  refine fz ?_; simp [FinS,nilL,nilV,oneOr,-List.drop_one]
  simp [chanTake,ho]
 ·simp only [go_sem,seval,ho]
  repeat refine K ?_
  by_cases hl:(0:Int)<c.list.length
  ·have hl':0<c.list.length:=by omega
   simp only [go_sem,seval,hl,qA0 c.list 0 hl']
   repeat refine K ?_
   refine fz ?_; simp [FinS,nilL,nilV,oneOr,-List.drop_one]
   simp [chanTake,ho,hl']<;>try omega
  ·have hl' :¬0<c.list.length:=by omega
   simp only [go_sem,seval,hl]
   repeat refine K ?_
   cases hc:c.closed
   ·simp only [go_sem,seval,hc]
    repeat refine K ?_
    refine fz ?_; simp [FinS,nilL,nilV,oneOr,-List.drop_one]
    simp [chanTake,ho,hl',hc]
   ·simp only [go_sem,seval,hc]
    repeat refine K ?_
    refine fz ?_; simp [FinS,nilL,nilV,oneOr,-List.drop_one]
    simp [chanTake,ho,hl',hc]
theorem specChanClose_ok (c:Chan) (hx:8*c.list.length<2^46):CallOk Tryz.prog num 94 [.agg (chanC .bw c)] [] (.tup [.agg (chanC .own (chanClose c).1),.int .i64 (chanClose c).2]):=by
 refine EN m94 Tryz.func268 ?_
 unfold m94
 simp only [go_sem,seval]
 repeat refine K ?_
 refine CA [] (l3Copy_ok c (by omega)) ?_
 try simp only [go_sem,seval]
 repeat refine K ?_
 cases hc:c.closed
 ·simp only [go_sem,seval,hc]
  repeat refine K ?_
  refine CA [] (specChanOk_ok c) ?_
  try simp only [go_sem,seval]
  repeat refine K ?_
  cases ho:chanOk c
  ·simp only [go_sem,seval,ho]
   repeat refine K ?_
   refine fz ?_; simp [FinS,nilL,nilV,oneOr,-List.drop_one]
   simp [chanClose,hc,ho]
  ·simp only [go_sem,seval,ho]
   repeat refine K ?_
   refine fz ?_; simp [FinS,nilL,nilV,oneOr,-List.drop_one]
   simp [chanClose,hc,ho]
 ·simp only [go_sem,seval,hc]
  repeat refine K ?_
  refine fz ?_; simp [FinS,nilL,nilV,oneOr,-List.drop_one]
  simp [chanClose,hc]
def m24:MFn:=⟨41,[.cell 2 3 true,.t 3],kr [xb 1 0,xo 2 (.alloc [.nil,.nil,.nil]),xF 3] (kr [xo 7 (.build [.nil,.nil,.nil] []),xo 4 (.alloc [.nil,.nil,.nil]),xS 3 4 7] (.seq (kr [xm 8 2 1,xc1 9 48 (.t 8),xN 10 9] (kF 10 [xm 11 3 4,xS 3 2 11,xF 3])) (.seq (kr [xa 12 1 1,xl 13 12,xe 14 13,xI 15 0] (.blk 0 (.loop (kr [bT 16 .lss 15 14] (.seq (kX 16 0) (.seq (.blk 1 (.dreg (.take 0 (xa 17 0 4) (.take 1 (xl 18 17) (.only 2 [] (xo 19 (.mkS [xz] 8 (xi 4) (xi 4))) (.only 3 [] (xo 20 (.build [.int .i64 0,.nil,.int .i64 0] [(1,1,.t 19)])) (.only 4 [] (xo 21 (.mkSl [.int .i64 0,.nil,.int .i64 0] 1 [(0,.t 20)])) (.only 5 [1,0] (xA 22 3 40 18 21) (.only 6 [0,1] (xa 23 0 4) (.only 7 [0,1] (xS 1 23 22) (.done))))))))))) (xr [bI 24 .add 15 1,xv 15 24]))))))) (.seq (kr [xa 25 0 1,xl 26 25,xe 27 26,xI 28 0] (.blk 2 (.loop (kr [bT 29 .lss 28 27] (.seq (kX 29 2) (.seq (.blk 3 (kr [xD 30 1 26 28,xl 31 30,xv 6 31] (xr [xa 32 1 4,xl 33 32,xv 34 6,xo 35 (.build [.int .i64 0,.nil,.bool false] [(0,1,.t 34)]),xo 36 (.mkSl [.int .i64 0,.nil,.bool false] 1 [(0,.t 35)]),xA 37 3 40 33 36,xa 38 1 4,xS 1 38 37]))) (xr [bI 39 .add 28 1,xv 28 39]))))))) (kR [xm 40 3 4,xS 3 2 40,xT 3])))))⟩
def m41:MFn:=⟨98,[.t 6],kr [xb 3 0,xI 6 0] (.seq (kr [xv 12 2,xv 13 1,xk 14 13,xa 15 0 14,xl 16 15,xe 17 16,bI 18 .sub 17 1,xc3 19 59 (.t 12) (xi 0) (.t 18),xN 20 19] (kF 20 [xI 6 2])) (kr [xv 21 1,xk 22 21,xa 23 0 22,xl 24 23,xv 25 2,xD 26 3 24 25,xm 27 3 26,xo 7 (.alloc [.int .i64 0,.nil,.int .i64 0]),xS 3 7 27] (.seq (.dreg (.take 0 (xa 28 1 3) (.take 1 (xl 29 28) (.take 2 (xv 30 2) (.take 3 (xD 31 1 29 30) (.take 4 (xl 32 31) (.take 5 (xa 33 0 7) (.take 6 (xl 34 33) (.take 7 (xD 35 5 32 34) (.take 8 (xm 36 5 35) (.only 9 [] (xo 8 (.alloc [xz,xz,xz,xz,xz])) (.only 10 [0,1,2,3,4,5,6,7,8] (xS 5 8 36) (.done))))))))))))) (.seq (kr [xa 37 2 7,xl 38 37,bI 39 .neq 38 0,xv 40 39,za 41 0 8 40,zl 42 1 41 40,zI 43 .eql 42 10 40,zv 44 43 40,yv 45 1 44,xg 46 (.nilck (.t 45)) 44 true,ya 47 2 46 44,yl 48 1 47 44,ye 49 48 44,yI 50 .eql 49 4000 44,xg 51 (.pick (.t 44) (.t 50) (.c (.bool false))) 40 false,xQ 52 40 51] (kF 52 [xI 6 3])) (.seq (kr [xa 53 0 8,xl 54 53,bI 55 .neq 54 5,xv 56 55,ya 57 0 8 56,yl 58 1 57 56,yI 59 .neq 58 6 56,xP 60 56 59] (kF 60 [xI 6 0])) (.seq (.dreg (.take 0 (xv 61 1) (.take 1 (xk 62 61) (.take 2 (xa 63 1 62) (.take 3 (xl 64 63) (.take 4 (xa 65 4 8) (.take 5 (xl 66 65) (.take 6 (xD 67 3 64 66) (.take 7 (xm 68 3 67) (.only 8 [] (xo 9 (.alloc [.int .i64 0,.nil,.bool false])) (.only 9 [0,1,2,3,4,5,6,7] (xS 3 9 68) (.done)))))))))))) (kr [xa 69 0 8,xl 70 69,bI 71 .eql 70 5,xv 72 71,ya 73 1 9 72,yl 74 1 73 72,ye 75 74 72,ya 76 0 9 72,yl 77 1 76 72,xg 78 (.bin .eql (.t 75) (.t 77)) 72 true,xP 79 72 78,xv 10 79] (kr [xa 80 0 8,xl 81 80,bI 82 .eql 81 6,xv 83 82,ya 84 1 9 83,yl 85 1 84 83,ye 86 85 83,yI 87 .eql 86 0 83,xP 88 83 87,xv 11 88] (.seq (kr [xa 89 2 9,xl 90 89,xN 91 90,xv 92 91,yv 93 10 92,yv 94 93 92,zv 95 11 94,xg 96 (.pick (.t 94) (.c (.bool true)) (.t 95)) 92 true,xP 97 92 96] (kF 97 [xI 6 4])) (kR [xI 6 0]))))))))))⟩
def m45:MFn:=⟨45,[.cell 2 3 true,.t 3],kr [xb 1 0,xo 2 (.alloc [.nil,.nil,.nil]),xF 3] (.seq (kr [xm 7 2 1,xc1 8 62 (.t 7),xN 9 8] (kF 9 [xo 10 (.build [.nil,.nil,.nil] []),xS 3 2 10,xF 3])) (kr [xo 11 (.build [.nil,.nil,.nil] []),xo 4 (.alloc [.nil,.nil,.nil]),xS 3 4 11] (.seq (kr [xI 5 0] (.blk 0 (.loop (.seq (kr [xv 12 5,xa 13 1 1,xl 14 13,xe 15 14,bT 16 .lss 12 15] (kX 16 0)) (.seq (.blk 1 (.dreg (.take 0 (xa 19 0 4) (.take 1 (xl 20 19) (.only 2 [] (xo 21 (.mkS [xz] 8 (xi 4) (xi 4))) (.only 3 [] (xo 22 (.build [.int .i64 0,.nil,.int .i64 0] [(1,1,.t 21)])) (.only 4 [] (xo 23 (.mkSl [.int .i64 0,.nil,.int .i64 0] 1 [(0,.t 22)])) (.only 5 [1,0] (xA 24 3 40 20 23) (.only 6 [0,1] (xa 25 0 4) (.only 7 [0,1] (xS 1 25 24) (.done))))))))))) (xr [xv 17 5,bI 18 .add 17 1,xv 5 18])))))) (.seq (kr [xI 6 0] (.blk 2 (.loop (.seq (kr [xv 26 6,xa 27 0 1,xl 28 27,xe 29 28,bT 30 .lss 26 29] (kX 30 2)) (.seq (.blk 3 (.dreg (.take 0 (xa 33 1 4) (.take 1 (xl 34 33) (.take 2 (xa 35 0 1) (.take 3 (xl 36 35) (.only 4 [] (xv 37 6) (.only 5 [3,2] (xD 38 1 36 37) (.only 6 [5,3,2] (xl 39 38) (.only 7 [6,5,3,2] (xo 40 (.build [.int .i64 0,.nil,.bool false] [(0,1,.t 39)])) (.only 8 [7,6,5,3,2] (xo 41 (.mkSl [.int .i64 0,.nil,.bool false] 1 [(0,.t 40)])) (.only 9 [1,8,0,7,6,5,3,2] (xA 42 3 40 34 41) (.only 10 [0,1,2,3] (xa 43 1 4) (.only 11 [0,1,2,3] (xS 1 43 42) (.done))))))))))))))) (xr [xv 31 6,bI 32 .add 31 1,xv 6 32])))))) (kR [xm 44 3 4,xS 3 2 44,xT 3])))))⟩
def m49:MFn:=⟨49,[.cell 2 3 true],kr [xb 1 0,xo 2 (.alloc [.nil,.nil,.nil])] (kr [xa 8 2 1,xl 9 8,xc1 10 69 (.t 9),xo 11 (.build [.nil,.nil,.nil] [(2,1,.t 10)]),xo 3 (.alloc [.nil,.nil,.nil]),xS 3 3 11] (.seq (kr [xa 12 0 1,xl 13 12,xe 14 13,xI 15 0] (.blk 0 (.loop (kr [bT 16 .lss 15 14] (.seq (kX 16 0) (.seq (.blk 1 (kr [xD 17 3 13 15,xm 18 3 17,xo 5 (.alloc [.int .i64 0,.nil,.int .i64 0]),xS 3 5 18] (.dreg (.take 0 (xa 19 0 3) (.take 1 (xl 20 19) (.take 2 (xa 21 0 5) (.take 3 (xl 22 21) (.take 4 (xa 23 1 5) (.take 5 (xl 24 23) (.take 7 (xa 26 2 5) (.take 8 (xl 27 26) (.only 6 [5,4] (xc1 25 36 (.t 24)) (.only 9 [3,6,8,2,5,7,4] (xo 28 (.build [.int .i64 0,.nil,.int .i64 0] [(0,1,.t 22),(1,1,.t 25),(2,1,.t 27)])) (.only 10 [9,3,6,8,2,5,7,4] (xo 29 (.mkSl [.int .i64 0,.nil,.int .i64 0] 1 [(0,.t 28)])) (.only 11 [1,6,10,0,5,9,4,3,8,2,7] (xA 30 3 40 20 29) (.only 12 [0,1,2,3,4,5,7,8] (xa 31 0 3) (.only 13 [0,1,2,3,4,5,7,8] (xS 1 31 30) (.done)))))))))))))))))) (xr [bI 32 .add 15 1,xv 15 32]))))))) (.seq (kr [xa 33 1 1,xl 34 33,xe 35 34,xI 36 0] (.blk 2 (.loop (kr [bT 37 .lss 36 35] (.seq (kX 37 2) (.seq (.blk 3 (kr [xD 38 3 34 36,xm 39 3 38,xo 7 (.alloc [.int .i64 0,.nil,.bool false]),xS 3 7 39] (.dreg (.take 0 (xa 40 1 3) (.take 1 (xl 41 40) (.only 2 [] (xm 42 3 7) (.only 3 [] (xc1 43 70 (.t 42)) (.only 4 [] (xo 44 (.mkSl [.int .i64 0,.nil,.bool false] 1 [(0,.t 43)])) (.only 5 [1,0] (xA 45 3 40 41 44) (.only 6 [0,1] (xa 46 1 3) (.only 7 [0,1] (xS 1 46 45) (.done)))))))))))) (xr [bI 47 .add 36 1,xv 36 47]))))))) (kR [xm 48 3 3,xS 3 2 48]))))⟩
def m65:MFn:=⟨54,[.cell 2 3 true],kr [xb 1 0,xo 2 (.alloc [.nil,.nil,.nil])] (kr [xo 7 (.mkSl [xz,xz] 0 []),xa 8 2 1,xl 9 8,xA 10 2 16 7 9,xo 11 (.build [.nil,.nil,.nil] [(2,1,.t 10)]),xo 3 (.alloc [.nil,.nil,.nil]),xS 3 3 11] (.seq (kr [xI 4 0] (.blk 0 (.loop (.seq (kr [xv 12 4,xa 13 0 1,xl 14 13,xe 15 14,bT 16 .lss 12 15] (kX 16 0)) (.seq (.blk 1 (kr [xa 19 0 1,xl 20 19,xv 21 4,xD 22 3 20 21,xm 23 3 22,xo 5 (.alloc [.int .i64 0,.nil,.int .i64 0]),xS 3 5 23] (kr [xo 24 (.mkSl [xz] 0 []),xa 25 1 5,xl 26 25,xA 27 1 8 24 26,xa 28 1 5,xS 1 28 27] (xr [xa 29 0 3,xl 30 29,xm 31 3 5,xo 32 (.mkSl [.int .i64 0,.nil,.int .i64 0] 1 [(0,.t 31)]),xA 33 3 40 30 32,xa 34 0 3,xS 1 34 33])))) (xr [xv 17 4,bI 18 .add 17 1,xv 4 18])))))) (.seq (kr [xI 6 0] (.blk 2 (.loop (.seq (kr [xv 35 6,xa 36 1 1,xl 37 36,xe 38 37,bT 39 .lss 35 38] (kX 39 2)) (.seq (.blk 3 (.dreg (.take 0 (xa 42 1 3) (.take 1 (xl 43 42) (.take 2 (xa 44 1 1) (.take 3 (xl 45 44) (.only 4 [] (xv 46 6) (.only 5 [3,2] (xD 47 3 45 46) (.only 6 [5,3,2] (xm 48 3 47) (.only 7 [6,5,3,2] (xc1 49 84 (.t 48)) (.only 8 [7,6,5,3,2] (xo 50 (.mkSl [.int .i64 0,.nil,.bool false] 1 [(0,.t 49)])) (.only 9 [1,7,0,6,5,3,2] (xA 51 3 40 43 50) (.only 10 [0,1,2,3] (xa 52 1 3) (.only 11 [0,1,2,3] (xS 1 52 51) (.done))))))))))))))) (xr [xv 40 6,bI 41 .add 40 1,xv 6 41])))))) (kR [xm 53 3 3,xS 3 2 53]))))⟩
def thread0:Thread:=⟨0,[0,0,0,0],0⟩
def sourceNew (p:Prog):Source×Bool :=
 if progOk p then (⟨List.replicate p.bods.length thread0,p.caps.map fun c=>⟨c,[],false⟩,[]⟩,true) else (⟨[],[],[]⟩,false)
theorem rep_succ {α:Type} (i:Nat) (x:α):List.replicate (i+1) x=List.replicate i x++[x]:=List.replicate_succ'
theorem implSourceNew_ok (p:Prog) (h1:p.caps.length<2^40) (h2:p.bods.length<2^40) (h3 :∀b∈p.bods,b.length<2^47):CallOk Tryz.prog num 24 [.agg (progC .bw p)] [] (.tup [.agg (sourceC .own (sourceNew p).1),.bool (sourceNew p).2]):=by
 refine EN m24 Tryz.func191 ?_
 unfold m24
 simp only [go_sem,seval]
 repeat refine K ?_
 refine CA [] (implProgOk_ok p (by omega) (by omega) h3) ?_
 try simp only [go_sem,seval]
 repeat refine K ?_
 cases hok:progOk p
 ·simp only [go_sem,seval,hok]
  repeat refine K ?_
  refine ⟨_,Sub.refl _,qAp (by simp) ?_⟩; simp [-List.drop_one]
  simp [sourceNew,hok,threads,chans,notes]
 ·simp only [go_sem,seval,hok]
  repeat refine K ?_
  refine qA8 (ι:=Nat) (fun i=>.mk [(1,.ptr 10 0 0),(2,.ptr 11 0 0),(4,.ptr 12 0 0),(14,.int .i64 p.bods.length),(15,.int .i64 i)] [(10,2,[progC .bw p]),(11,3,[[.nil,.nil,.nil]]),(12,3,[[.sl .own 3 (threads .own (List.replicate i thread0)),.nil,.nil]])] 13) (fun i=>i≤p.bods.length) (fun i=>p.bods.length-i) 0 (by simp) ?_ ?_
  ·refine Sub.shape [] id (by omega) ?_ ?_ ?_ ?_<;>simp [qA2]
  ·rintro i hi
   simp only [go_sem,seval]
   refine qA1 (fun hc=>?_) (fun hc=>?_)
   ·simp only [decide_eq_true_eq] at hc
    have hl':i<p.bods.length:=by omega
    simp only [go_sem,seval,qA7 (i:=i) (by omega),List.length_replicate]
    repeat refine K ?_
    have he:threads .own (List.replicate i thread0)++[[AV.int .i64 0,.sl .own 1 [[.int .i64 0],[.int .i64 0],[.int .i64 0],[.int .i64 0]],.int .i64 0]]=threads .own (List.replicate (i+1) thread0):=by
     rw [rep_succ,←threads_append]
     rfl
    refine qA6 (i+1) ?_ hl' (by omega)
    refine Sub.trans (Sub.foldLast 16 1 14 rfl (by simp [-gD]<;>omega) rfl (by decide) (by decide) rfl) ?_
    simp only [fS,qA,qC,he]
    refine Sub.trans (Sub.fold1 12 0 16 rfl (by simp [-gD]<;>omega) rfl (by decide) (by decide) rfl) ?_
    simp only [fS,qA,qC]
    refine Sub.shape [] id (by omega) ?_ ?_ ?_ ?_<;>simp [qA2]
   ·simp only [decide_eq_false_iff_not] at hc
    have hie:i=p.bods.length:=by omega
    subst hie
    simp only [go_sem,seval]
    repeat refine K ?_
    refine qA8 (ι:=Nat) (fun i=>.mk [(2,.ptr 11 0 0),(4,.ptr 12 0 0),(26,.sl .bw 1 (ints p.caps)),(27,.int .i64 p.caps.length),(28,.int .i64 i)] [(11,3,[[.nil,.nil,.nil]]),(12,3,[[.sl .own 3 (threads .own (List.replicate p.bods.length thread0)),.sl .own 3 (chans .own ((p.caps.take i).map fun c=>⟨c,[],false⟩)),.nil]])] 13) (fun i=>i≤p.caps.length) (fun i=>p.caps.length-i) 0 (by simp) ?_ ?_
    ·refine Sub.shape [] id (by omega) ?_ ?_ ?_ ?_<;>simp [qA2]
    ·rintro i hi
     simp only [go_sem,seval]
     refine qA1 (fun hc=>?_) (fun hc=>?_)
     ·simp only [decide_eq_true_eq] at hc
      have hl':i<p.caps.length:=by omega
      have hlt:(p.caps.take i).length=i:=by simp; omega
      simp only [go_sem,seval,qA7 (i:=i) (by omega),qA0 p.caps i hl',List.length_map,hlt]
      repeat refine K ?_
      have he:chans .own ((p.caps.take i).map fun c=>⟨c,[],false⟩)++[[AV.int .i64 (p.caps.getD i 0),.sl .own 1 [],.bool false]]=chans .own ((p.caps.take (i+1)).map fun c=>⟨c,[],false⟩):=by
       rw [List.take_succ_eq_append_getElem hl',List.map_append,←chans_append]
       simp [chans,List.getD_eq_getElem?_getD,hl',qB7]
      refine qA6 (i+1) ?_ hl' (by omega)
      refine Sub.trans (Sub.nilLast 15 (r':=[.int .i64 (p.caps.getD i 0),.sl .own 1 [],.bool false]) rfl (by simp) (by simp [nf_app,bndr,bnds,bnd])) ?_
      simp only [put,Nat.reduceEqDiff,if_true,if_false]
      rw [he]
      refine Sub.trans (Sub.fold1 12 1 15 rfl (by simp [-gD]<;>omega) rfl (by decide) (by decide) rfl) ?_
      simp only [fS,qA,qC,List.length_map,List.length_take,Nat.min_eq_left (show i+1≤p.caps.length from hl')]
      refine Sub.shape [] id (by omega) ?_ ?_ ?_ ?_<;>simp [qA2]
     ·simp only [decide_eq_false_iff_not] at hc
      have hie:p.caps.take i=p.caps:=List.take_of_length_le (by omega)
      simp only [go_sem,seval,hie]
      repeat refine K ?_
      refine ⟨_,Sub.refl _,qAp (by simp) ?_⟩; simp [-List.drop_one]
      simp [sourceNew,hok]
theorem specSourceNew_ok (p:Prog) (h1:p.caps.length<2^40) (h2:p.bods.length<2^40) (h3 :∀b∈p.bods,b.length<2^47):CallOk Tryz.prog num 45 [.agg (progC .bw p)] [] (.tup [.agg (sourceC .own (sourceNew p).1),.bool (sourceNew p).2]):=by
 refine EN m45 Tryz.func189 ?_
 unfold m45
 simp only [go_sem,seval]
 repeat refine K ?_
 refine CA [] (qDk p (by omega) (by omega) h3) ?_
 try simp only [go_sem,seval]
 repeat refine K ?_
 cases hok:progOk p
 ·simp only [go_sem,seval,hok]
  repeat refine K ?_
  refine ⟨_,Sub.refl _,qAp (by simp) ?_⟩; simp [-List.drop_one]
  simp [sourceNew,hok,threads,chans,notes]
 ·simp only [go_sem,seval,hok]
  repeat refine K ?_
  refine qA8 (ι:=Nat) (fun i=>.mk [(1,.ptr 10 0 0),(2,.ptr 11 0 0),(4,.ptr 12 0 0),(5,.int .i64 i)] [(10,2,[progC .bw p]),(11,3,[[.nil,.nil,.nil]]),(12,3,[[.sl .own 3 (threads .own (List.replicate i thread0)),.nil,.nil]])] 13) (fun i=>i≤p.bods.length) (fun i=>p.bods.length-i) 0 (by simp) ?_ ?_
  ·refine Sub.shape [] id (by omega) ?_ ?_ ?_ ?_<;>simp [qA2]
  ·rintro i hi
   simp only [go_sem,seval]
   repeat refine K ?_
   refine qA1 (fun hc=>?_) (fun hc=>?_)
   ·simp only [decide_eq_true_eq] at hc
    have hl':i<p.bods.length:=by omega
    simp only [go_sem,seval,qA7 (i:=i) (by omega),List.length_replicate]
    repeat refine K ?_
    have he:threads .own (List.replicate i thread0)++[[AV.int .i64 0,.sl .own 1 [[.int .i64 0],[.int .i64 0],[.int .i64 0],[.int .i64 0]],.int .i64 0]]=threads .own (List.replicate (i+1) thread0):=by
     rw [rep_succ,←threads_append]
     rfl
    refine qA6 (i+1) ?_ hl' (by omega)
    refine Sub.trans (Sub.foldLast 16 1 14 rfl (by simp [-gD]<;>omega) rfl (by decide) (by decide) rfl) ?_
    simp only [fS,qA,qC,he]
    refine Sub.trans (Sub.fold1 12 0 16 rfl (by simp [-gD]<;>omega) rfl (by decide) (by decide) rfl) ?_
    simp only [fS,qA,qC]
    refine Sub.shape [] id (by omega) ?_ ?_ ?_ ?_<;>simp [qA2]
   ·simp only [decide_eq_false_iff_not] at hc
    have hie:i=p.bods.length:=by omega
    subst hie
    simp only [go_sem,seval]
    repeat refine K ?_
    refine qA8 (ι:=Nat) (fun i=>.mk [(1,.ptr 10 0 0),(2,.ptr 11 0 0),(4,.ptr 12 0 0),(6,.int .i64 i)] [(10,2,[progC .bw p]),(11,3,[[.nil,.nil,.nil]]),(12,3,[[.sl .own 3 (threads .own (List.replicate p.bods.length thread0)),.sl .own 3 (chans .own ((p.caps.take i).map fun c=>⟨c,[],false⟩)),.nil]])] 13) (fun i=>i≤p.caps.length) (fun i=>p.caps.length-i) 0 (by simp) ?_ ?_
    ·refine Sub.shape [] id (by omega) ?_ ?_ ?_ ?_<;>simp [qA2]
    ·rintro i hi
     simp only [go_sem,seval]
     repeat refine K ?_
     refine qA1 (fun hc=>?_) (fun hc=>?_)
     ·simp only [decide_eq_true_eq] at hc
      have hl':i<p.caps.length:=by omega
      have hlt:(p.caps.take i).length=i:=by simp; omega
      simp only [go_sem,seval,qA7 (i:=i) (by omega),qA0 p.caps i hl',List.length_map,hlt]
      repeat refine K ?_
      have he:chans .own ((p.caps.take i).map fun c=>⟨c,[],false⟩)++[[AV.int .i64 (p.caps.getD i 0),.sl .own 1 [],.bool false]]=chans .own ((p.caps.take (i+1)).map fun c=>⟨c,[],false⟩):=by
       rw [List.take_succ_eq_append_getElem hl',List.map_append,←chans_append]
       simp [chans,List.getD_eq_getElem?_getD,hl',qB7]
      refine qA6 (i+1) ?_ hl' (by omega)
      refine Sub.trans (Sub.nilLast 15 (r':=[.int .i64 (p.caps.getD i 0),.sl .own 1 [],.bool false]) rfl (by simp) (by simp [nf_app,bndr,bnds,bnd])) ?_
      simp only [put,Nat.reduceEqDiff,if_true,if_false]
      rw [he]
      refine Sub.trans (Sub.fold1 12 1 15 rfl (by simp [-gD]<;>omega) rfl (by decide) (by decide) rfl) ?_
      simp only [fS,qA,qC,List.length_map,List.length_take,Nat.min_eq_left (show i+1≤p.caps.length from hl')]
      refine Sub.shape [] id (by omega) ?_ ?_ ?_ ?_<;>simp [qA2]
     ·simp only [decide_eq_false_iff_not] at hc
      have hie:p.caps.take i=p.caps:=List.take_of_length_le (by omega)
      simp only [go_sem,seval,hie]
      repeat refine K ?_
      refine ⟨_,Sub.refl _,qAp (by simp) ?_⟩; simp [-List.drop_one]
      simp [sourceNew,hok]
theorem threads_next (l:List Thread) (i:Nat) (h:i<l.length):threads .own (l.take i)++[[AV.int .i64 (l.getD i default).at_,.sl .own 1 (ints (l.getD i default).regs),.int .i64 (l.getD i default).st]]=threads .own (l.take (i+1)):=by
 rw [List.take_succ_eq_append_getElem h,←threads_append]
 simp [threads,List.getD_eq_getElem?_getD,h]
theorem chans_next (l:List Chan) (i:Nat) (h:i<l.length):chans .own (l.take i)++[[AV.int .i64 (l.getD i default).cap,.sl .own 1 (ints (l.getD i default).list),.bool (l.getD i default).closed]]=chans .own (l.take (i+1)):=by
 rw [List.take_succ_eq_append_getElem h,←chans_append]
 simp [chans,List.getD_eq_getElem?_getD,h]
theorem copySource_ok (s:Source) (hs:Small s):CallOk Tryz.prog num 49 [.agg (sourceC .bw s)] [] (.agg (sourceC .own s)):=by
 obtain ⟨hs1,hs2,hs3,hs4,hs5⟩:=hs
 refine EN m49 Tryz.func230 ?_
 unfold m49
 simp only [go_sem,seval]
 repeat refine K ?_
 refine CA [] (copyNotes_ok s.tr (by omega)) ?_
 try simp only [go_sem,seval]
 repeat refine K ?_
 refine qA8 (ι:=Nat) (fun i=>.mk [(1,.ptr 10 0 0),(2,.ptr 11 0 0),(3,.ptr 13 0 0),(13,.sl .bw 3 (threads .bw s.ths)),(14,.int .i64 s.ths.length),(15,.int .i64 i)] [(10,3,[sourceC .bw s]),(11,3,[[.nil,.nil,.nil]]),(13,3,[[.sl .own 3 (threads .own (s.ths.take i)),.nil,.sl .own 2 (notes s.tr)]])] 14) (fun i=>i≤s.ths.length) (fun i=>s.ths.length-i) 0 (by simp) ?_ ?_
 ·refine Sub.trans (Sub.fold1 13 2 12 rfl (by simp [-gD]<;>omega) rfl (by decide) (by decide) rfl) ?_
  simp only [fS,qA,qC]
  refine Sub.shape [] id (by omega) ?_ ?_ ?_ ?_<;>simp [qA2]
 ·rintro i hi
  simp only [go_sem,seval]
  refine qA1 (fun hc=>?_) (fun hc=>?_)
  ·simp only [decide_eq_true_eq] at hc
   have hl':i<s.ths.length:=by omega
   have hlt:(s.ths.take i).length=i:=by simp; omega
   have hr:=hs4 _ (qAd s.ths i default hl')
   simp only [go_sem,seval,qA7 (i:=i) (by omega),qA5 .bw s.ths i hl',hlt]
   repeat refine K ?_
   refine DA [] (qDy (s.ths.getD i default).regs (by omega)) ?_
   try simp only [go_sem,seval]
   repeat refine K ?_
   simp only [go_sem,seval,qA7 (i:=i) (by omega),hlt]
   repeat refine K ?_
   refine qA6 (i+1) ?_ hl' (by omega)
   refine Sub.trans (Sub.foldLast 18 1 16 rfl (by simp [-gD]<;>omega) rfl (by decide) (by decide) rfl) ?_
   simp only [fS,qA,qC,threads_next s.ths i hl']
   refine Sub.trans (Sub.fold1 13 0 18 rfl (by simp [-gD]<;>omega) rfl (by decide) (by decide) rfl) ?_
   simp only [fS,qA,qC,List.length_take,Nat.min_eq_left (show i+1≤s.ths.length from hl')]
   refine Sub.shape [] id (by omega) ?_ ?_ ?_ ?_<;>simp [qA2]
  ·simp only [decide_eq_false_iff_not] at hc
   have hie:s.ths.take i=s.ths:=List.take_of_length_le (by omega)
   simp only [go_sem,seval,hie]
   repeat refine K ?_
   refine qA8 (ι:=Nat) (fun i=>.mk [(2,.ptr 11 0 0),(3,.ptr 13 0 0),(34,.sl .bw 3 (chans .bw s.chs)),(35,.int .i64 s.chs.length),(36,.int .i64 i)] [(11,3,[[.nil,.nil,.nil]]),(13,3,[[.sl .own 3 (threads .own s.ths),.sl .own 3 (chans .own (s.chs.take i)),.sl .own 2 (notes s.tr)]])] 14) (fun i=>i≤s.chs.length) (fun i=>s.chs.length-i) 0 (by simp) ?_ ?_
   ·refine Sub.shape [] id (by omega) ?_ ?_ ?_ ?_<;>simp [qA2]
   ·rintro i hi
    simp only [go_sem,seval]
    refine qA1 (fun hc=>?_) (fun hc=>?_)
    ·simp only [decide_eq_true_eq] at hc
     have hl':i<s.chs.length:=by omega
     have hlt:(s.chs.take i).length=i:=by simp; omega
     have hr:=hs5 _ (qAd s.chs i default hl')
     simp only [go_sem,seval,qA7 (i:=i) (by omega),qB1 .bw s.chs i hl',hlt]
     repeat refine K ?_
     refine DA [] (copyChan_ok (s.chs.getD i default) (by omega)) ?_
     try simp only [go_sem,seval]
     repeat refine K ?_
     simp only [go_sem,seval,qA7 (i:=i) (by omega),hlt]
     repeat refine K ?_
     refine qA6 (i+1) ?_ hl' (by omega)
     refine Sub.trans (Sub.foldLast 18 1 16 rfl (by simp [-gD]<;>omega) rfl (by decide) (by decide) rfl) ?_
     simp only [fS,qA,qC,chans_next s.chs i hl']
     refine Sub.trans (Sub.fold1 13 1 18 rfl (by simp [-gD]<;>omega) rfl (by decide) (by decide) rfl) ?_
     simp only [fS,qA,qC,List.length_take,Nat.min_eq_left (show i+1≤s.chs.length from hl')]
     refine Sub.shape [] id (by omega) ?_ ?_ ?_ ?_<;>simp [qA2]
    ·simp only [decide_eq_false_iff_not] at hc
     have hie:s.chs.take i=s.chs:=List.take_of_length_le (by omega)
     simp only [go_sem,seval,hie]
     repeat refine K ?_
     refine ⟨_,Sub.refl _,qAm ?_⟩; simp [-List.drop_one]
theorem l4Copy_ok (s:Source) (hs:Small s):CallOk Tryz.prog num 65 [.agg (sourceC .bw s)] [] (.agg (sourceC .own s)):=by
 obtain ⟨hs1,hs2,hs3,hs4,hs5⟩:=hs
 refine EN m65 Tryz.func228 ?_
 unfold m65
 simp only [go_sem,seval]
 repeat refine K ?_
 refine qA8 (ι:=Nat) (fun i=>.mk [(1,.ptr 10 0 0),(2,.ptr 11 0 0),(3,.ptr 14 0 0),(4,.int .i64 i)] [(10,3,[sourceC .bw s]),(11,3,[[.nil,.nil,.nil]]),(14,3,[[.sl .own 3 (threads .own (s.ths.take i)),.nil,.sl .own 2 (notes s.tr)]])] 15) (fun i=>i≤s.ths.length) (fun i=>s.ths.length-i) 0 (by simp) ?_ ?_
 ·refine Sub.trans (Sub.fold1 14 2 13 rfl (by simp [-gD]<;>omega) rfl (by decide) (by decide) rfl) ?_
  simp only [fS,qA,qC]
  refine Sub.shape [] id (by omega) ?_ ?_ ?_ ?_<;>simp [qA2]
 ·rintro i hi
  simp only [go_sem,seval]
  repeat refine K ?_
  refine qA1 (fun hc=>?_) (fun hc=>?_)
  ·simp only [decide_eq_true_eq] at hc
   have hl':i<s.ths.length:=by omega
   have hlt:(s.ths.take i).length=i:=by simp; omega
   have hr:=hs4 _ (qAd s.ths i default hl')
   simp only [go_sem,seval,qA7 (i:=i) (by omega),qA5 .bw s.ths i hl',hlt]
   repeat refine K ?_
   refine qA6 (i+1) ?_ hl' (by omega)
   refine Sub.trans (Sub.foldLast 20 1 17 rfl (by simp [-gD]<;>omega) rfl (by decide) (by decide) rfl) ?_
   simp only [fS,qA,qC,threads_next s.ths i hl']
   refine Sub.trans (Sub.fold1 14 0 20 rfl (by simp [-gD]<;>omega) rfl (by decide) (by decide) rfl) ?_
   simp only [fS,qA,qC,List.length_take,Nat.min_eq_left (show i+1≤s.ths.length from hl')]
   refine Sub.shape [] id (by omega) ?_ ?_ ?_ ?_<;>simp [qA2]
  ·simp only [decide_eq_false_iff_not] at hc
   have hie:s.ths.take i=s.ths:=List.take_of_length_le (by omega)
   simp only [go_sem,seval,hie]
   repeat refine K ?_
   refine qA8 (ι:=Nat) (fun i=>.mk [(1,.ptr 10 0 0),(2,.ptr 11 0 0),(3,.ptr 14 0 0),(6,.int .i64 i)] [(10,3,[sourceC .bw s]),(11,3,[[.nil,.nil,.nil]]),(14,3,[[.sl .own 3 (threads .own s.ths),.sl .own 3 (chans .own (s.chs.take i)),.sl .own 2 (notes s.tr)]])] 15) (fun i=>i≤s.chs.length) (fun i=>s.chs.length-i) 0 (by simp) ?_ ?_
   ·refine Sub.shape [] id (by omega) ?_ ?_ ?_ ?_<;>simp [qA2]
   ·rintro i hi
    simp only [go_sem,seval]
    repeat refine K ?_
    refine qA1 (fun hc=>?_) (fun hc=>?_)
    ·simp only [decide_eq_true_eq] at hc
     have hl':i<s.chs.length:=by omega
     have hlt:(s.chs.take i).length=i:=by simp; omega
     have hr:=hs5 _ (qAd s.chs i default hl')
     simp only [go_sem,seval,qA7 (i:=i) (by omega),qB1 .bw s.chs i hl',hlt]
     repeat refine K ?_
     refine DA [] (l3Copy_ok (s.chs.getD i default) (by omega)) ?_
     try simp only [go_sem,seval]
     repeat refine K ?_
     simp only [go_sem,seval,qA7 (i:=i) (by omega),hlt]
     repeat refine K ?_
     refine qA6 (i+1) ?_ hl' (by omega)
     refine Sub.trans (Sub.foldLast 18 1 16 rfl (by simp [-gD]<;>omega) rfl (by decide) (by decide) rfl) ?_
     simp only [fS,qA,qC,chans_next s.chs i hl']
     refine Sub.trans (Sub.fold1 14 1 18 rfl (by simp [-gD]<;>omega) rfl (by decide) (by decide) rfl) ?_
     simp only [fS,qA,qC,List.length_take,Nat.min_eq_left (show i+1≤s.chs.length from hl')]
     refine Sub.shape [] id (by omega) ?_ ?_ ?_ ?_<;>simp [qA2]
    ·simp only [decide_eq_false_iff_not] at hc
     have hie:s.chs.take i=s.chs:=List.take_of_length_le (by omega)
     simp only [go_sem,seval,hie]
     repeat refine K ?_
     refine ⟨_,Sub.refl _,qAm ?_⟩; simp [-List.drop_one]
def ins (p:Prog) (s:Source) (i:Nat):Ins:=(p.bods.getD i []).getD (s.ths.getD i default).at_.toNat default
structure At (p:Prog) (s:Source) (i:Nat):Prop where
 hi:i<s.ths.length
 hb:i<p.bods.length
 regs:(s.ths.getD i default).regs.length=4
 at0:0≤(s.ths.getD i default).at_
 at1:(s.ths.getD i default).at_.toNat<(p.bods.getD i []).length
 len:(p.bods.getD i []).length≤24
 r0:0≤(ins p s i).r
 r1:(ins p s i).r.toNat<4
 a0:0≤(ins p s i).a
 a1:(ins p s i).a.toNat<4
 b0:0≤(ins p s i).b
 b1:(ins p s i).b.toNat<4
 ch:5≤(ins p s i).op→(ins p s i).op≤9→0≤(ins p s i).n∧(ins p s i).n.toNat<s.chs.length
 jm:(ins p s i).op=11∨(ins p s i).op=12→0≤(ins p s i).n∧(ins p s i).n.toNat<(p.bods.getD i []).length
 op:1≤(ins p s i).op∧(ins p s i).op≤13
theorem insOk_ch {x:Ins} {pl ch:Int} (h:insOk x pl ch=true) (h5:5≤x.op) (h9:x.op≤9):0≤x.n∧x.n<ch:=by
 rw [←insOkF_eq] at h
 simp only [insOkF,Bool.and_eq_true] at h
 have h2:=h.2
 rw [if_neg (by omega),if_neg (by omega)] at h2
 split at h2
 ·simp at h2
 ·simp only [Bool.or_eq_true,Bool.not_eq_true',within_iff] at h2
  rcases h2 with h2 | h2
  ·rw [within_eq] at h2
   simp at h2
   omega
  ·omega
theorem insOk_jm {x:Ins} {pl ch:Int} (h:insOk x pl ch=true) (h5:x.op=11∨x.op=12):0≤x.n∧x.n<pl:=by
 rw [←insOkF_eq] at h
 simp only [insOkF,Bool.and_eq_true] at h
 have h2:=h.2
 rw [if_neg (by omega),if_pos h5,within_iff] at h2
 omega
theorem at_of {p:Prog} {s:Source} (h:sourceOk p s=true) {i:Nat} (hi:i<s.ths.length):At p s i:=by
 simp only [sourceOk,Bool.and_eq_true,decide_eq_true_eq] at h
 obtain ⟨⟨⟨⟨⟨h1,h2⟩,h3⟩,_⟩,h5⟩,_⟩:=h
 have ht:=List.all_eq_true.1 h5 i (List.mem_range.2 hi)
 simp only [threadOk,Bool.and_eq_true,decide_eq_true_eq,within_iff] at ht
 have hb:i<p.bods.length:=by omega
 simp only [progOk,Bool.and_eq_true] at h1
 have hbody:=List.all_eq_true.1 h1.1.1.1 _ (qAd p.bods i [] hb)
 simp only [bodyOk,Bool.and_eq_true,within_iff] at hbody
 have hat:(s.ths.getD i default).at_.toNat<(p.bods.getD i []).length:=by omega
 have hx:insOk (ins p s i) _ _=true:=List.all_eq_true.1 hbody.1.2 _ (qAd (p.bods.getD i []) _ default hat)
 obtain ⟨o1,o2,o3,o4⟩:=insOk_op hx
 rw [within_iff] at o1 o2 o3 o4
 exact {
  hi:=hi,hb:=hb,regs:=by omega,at0:=by omega,at1:=hat,len:=by omega
  r0:=by omega,r1:=by omega,a0:=by omega,a1:=by omega,b0:=by omega,b1:=by omega
  ch:=fun a b=>by have:=insOk_ch hx a b; omega
  jm:=fun a=>by have:=insOk_jm hx a; omega
  op:=by omega}
def sourceCode (p:Prog) (s:Source) (who:Int):Int :=
 if within who 0 (s.ths.length-1)=false then 2
 else if¬(s.ths.getD who.toNat default).st=0∨((ins p s who.toNat).op=10∧(s.tr.length:Int)=4000) then 3
 else if¬(ins p s who.toNat).op=5∧¬(ins p s who.toNat).op=6 then 0
 else if (s.chs.getD (ins p s who.toNat).n.toNat default).closed=false∧(((ins p s who.toNat).op=5∧((s.chs.getD (ins p s who.toNat).n.toNat default).list.length:Int)=(s.chs.getD (ins p s who.toNat).n.toNat default).cap)∨((ins p s who.toNat).op=6∧((s.chs.getD (ins p s who.toNat).n.toNat default).list.length:Int)=0)) then 4
 else 0
theorem sourceCode_ok (p:Prog) (s:Source) (who:Int) (hp:SmallP p) (hs:Small s) (h:sourceOk p s=true):CallOk Tryz.prog num 41 [.agg (progC .bw p),.fptr .bw (sourceC .bw s) 0,.int .i64 who] [] (.int .i64 (sourceCode p s who)):=by
 obtain ⟨hs1,hs2,hs3,hs4,hs5⟩:=hs
 refine EN m41 Tryz.func258 ?_
 unfold m41
 have hw1:IntKind.i64.wrap ((s.ths.length:Int)-1)=(s.ths.length:Int)-1:=qAg (by omega) (by omega)
 simp only [go_sem,seval,hw1]
 repeat refine K ?_
 refine CA [] (qAk who 0 (s.ths.length-1)) ?_
 try simp only [go_sem,seval]
 repeat refine K ?_
 cases hw:within who 0 (s.ths.length-1)
 ·simp only [go_sem,seval,hw]
  repeat refine K ?_
  refine fz ?_; simp [FinS,nilL,nilV,oneOr,-List.drop_one]
  simp [sourceCode,hw]
 have hw':=hw
 rw [within_iff] at hw'
 obtain ⟨i,rfl⟩:=Int.eq_ofNat_of_zero_le hw'.1
 have ha:=at_of h (i:=i) (by omega)
 have e1:=ha.at0
 have e2:=ha.at1
 have e3:=ha.hb
 have hch:=ha.ch
 have hx:(p.bods.getD i []).getD (s.ths.getD i default).at_.toNat default=ins p s i:=rfl
 simp only [go_sem,seval,hw,Int.toNat_natCast,qA5 .bw s.ths i ha.hi,qA9 .bw p.bods i ha.hb,qBh (p.bods.getD i []) (s.ths.getD i default).at_.toNat ha.at1,hx]
 repeat refine K ?_
 by_cases h5:(ins p s i).op=5∨(ins p s i).op=6
 ·obtain ⟨n0,n1⟩:=hch (by omega) (by omega)
  rcases h5 with h5 | h5
  ·simp only [go_sem,seval,h5]
   repeat refine K ?_
   repeat' (first
    | (simp only [go_sem,seval,h5,qB1 .bw s.chs (ins p s i).n.toNat n1])
    | (refine qA1 (fun hc=>?_) (fun hc=>?_)<;>((try simp only [Bool.not_eq_true',Bool.not_eq_false',ne_eq,Bool.not_eq_true,Bool.not_eq_false] at hc)<;>(try simp only [hc])))
    | (refine qB4 (fun hc=>?_) (fun hc=>?_)<;>((try simp only [Bool.not_eq_true',Bool.not_eq_false',ne_eq,Bool.not_eq_true,Bool.not_eq_false] at hc)<;>(try simp only [hc])))
    | (refine qAy (fun hc=>?_) (fun hc=>?_)<;>((try simp only [Bool.not_eq_true',Bool.not_eq_false',ne_eq,Bool.not_eq_true,Bool.not_eq_false] at hc)<;>(try simp only [hc])))
    | (refine ⟨by first | omega | (simp; done),?_⟩)
    | fail)
   all_goals (refine fz ?_; simp [FinS,nilL,nilV,oneOr,-List.drop_one])
   all_goals (try (simp_all [sourceCode]; done))
  ·simp only [go_sem,seval,h5]
   repeat refine K ?_
   repeat' (first
    | (simp only [go_sem,seval,h5,qB1 .bw s.chs (ins p s i).n.toNat n1])
    | (refine qA1 (fun hc=>?_) (fun hc=>?_)<;>((try simp only [Bool.not_eq_true',Bool.not_eq_false',ne_eq,Bool.not_eq_true,Bool.not_eq_false] at hc)<;>(try simp only [hc])))
    | (refine qB4 (fun hc=>?_) (fun hc=>?_)<;>((try simp only [Bool.not_eq_true',Bool.not_eq_false',ne_eq,Bool.not_eq_true,Bool.not_eq_false] at hc)<;>(try simp only [hc])))
    | (refine qAy (fun hc=>?_) (fun hc=>?_)<;>((try simp only [Bool.not_eq_true',Bool.not_eq_false',ne_eq,Bool.not_eq_true,Bool.not_eq_false] at hc)<;>(try simp only [hc])))
    | (refine ⟨by first | omega | (simp; done),?_⟩)
    | fail)
   all_goals (refine fz ?_; simp [FinS,nilL,nilV,oneOr,-List.drop_one])
   all_goals (try (simp_all [sourceCode]; done))
 ·have h51 :¬(ins p s i).op=5:=fun h=>h5 (.inl h)
  have h61 :¬(ins p s i).op=6:=fun h=>h5 (.inr h)
  repeat' (first
   | (simp only [go_sem,seval,h51,h61])
   | (refine qA1 (fun hc=>?_) (fun hc=>?_)<;>((try simp only [Bool.not_eq_true',Bool.not_eq_false',ne_eq,Bool.not_eq_true,Bool.not_eq_false] at hc)<;>(try simp only [hc])))
   | (refine qB4 (fun hc=>?_) (fun hc=>?_)<;>((try simp only [Bool.not_eq_true',Bool.not_eq_false',ne_eq,Bool.not_eq_true,Bool.not_eq_false] at hc)<;>(try simp only [hc])))
   | (refine qAy (fun hc=>?_) (fun hc=>?_)<;>((try simp only [Bool.not_eq_true',Bool.not_eq_false',ne_eq,Bool.not_eq_true,Bool.not_eq_false] at hc)<;>(try simp only [hc])))
   | (refine ⟨by first | omega | (simp; done),?_⟩)
   | fail)
  all_goals (refine fz ?_; simp [FinS,nilL,nilV,oneOr,-List.drop_one])
  all_goals (try (simp_all [sourceCode]; done))
def m60:MFn:=⟨22,[.t 6],kr [xI 6 0] (.seq (kr [xv 7 0] (.blk 0 (kr [bI 9 .eql 7 2,xv 8 9] (.cond 8 (kR [xv 10 1,xv 11 2,bT 12 .add 10 11,xv 6 12]) (kr [bI 14 .eql 7 3,xv 13 14] (kF 13 [xv 15 1,xv 16 2,bT 17 .sub 15 16,xv 6 17])))))) (kR [xv 18 1,xv 19 2,bT 20 .lss 18 19,xc1 21 78 (.t 20),xv 6 21]))⟩
def m61:MFn:=⟨116,[.t 6],kr [xb 5 2,xF 6] (.seq (kr [xa 14 0 5,xl 15 14] (.blk 0 (.seq (kr [bI 17 .eql 15 5,xv 16 17] (.cond 16 (.skip) (xr [bI 18 .eql 15 7,xv 16 18]))) (.cond 16 (.seq (.dreg (.take 0 (xv 20 1) (.take 1 (xk 21 20) (.take 2 (xm 22 3 21) (.take 3 (xv 23 0) (.take 4 (xk 24 23) (.take 5 (xa 25 1 24) (.take 6 (xl 26 25) (.take 7 (xa 27 2 5) (.take 8 (xl 28 27) (.take 9 (xD 29 1 26 28) (.take 10 (xl 30 29) (.both 11 [2,10,1,9,0,6,8,5,7,4,3] (xc2 31 79 (.t 22) (.t 30)) (.take 12 (xv 19 31) (.take 13 (xX 32 19 0) (.take 14 (xX 33 19 1) (.only 15 [] (xo 7 (.alloc [.int .i64 0,.nil,.bool false])) (.only 16 [0,1,2,3,4,5,6,7,8,9,10,12,13] (xS 3 7 32) (.only 17 [0,1,2,3,4,5,6,7,8,9,10,12,13,14] (xv 8 33) (.done))))))) 15 [] (xo 7 (.alloc [.int .i64 0,.nil,.bool false])) (.only 11 [2,10,1,9,0,6,8,5,7,4,3] (xc2 31 79 (.t 22) (.t 30)) (.only 12 [11,2,10,1,9,0,6,8,5,7,4,3] (xv 19 31) (.take 13 (xX 32 19 0) (.take 14 (xX 33 19 1) (.only 16 [0,1,2,3,4,5,6,7,8,9,10,13] (xS 3 7 32) (.only 17 [0,1,2,3,4,5,6,7,8,9,10,13,14] (xv 8 33) (.done)))))))))))))))))))) (kr [xv 34 1,xm 35 3 7,xk 36 34,xS 3 36 35] (.seq (kr [xa 37 0 5,xl 38 37,bI 39 .eql 38 7,xv 40 39,yv 41 8 40,yI 42 .neq 41 2 40,xP 43 40 42] (.cond 43 (.dreg (.take 0 (xv 44 0) (.take 1 (xk 45 44) (.take 2 (xa 46 1 45) (.take 3 (xl 47 46) (.take 4 (xa 48 1 5) (.take 5 (xl 49 48) (.only 6 [] (xv 50 8) (.only 7 [] (bI 51 .eql 50 0) (.only 8 [] (xc1 52 78 (.t 51)) (.only 9 [0,1,2,3,4,5] (xD 53 1 47 49) (.only 10 [0,1,2,3,4,5] (xS 1 53 52) (.done))))))))))))) (.skip))) (kR [xv 54 8,bI 55 .neq 54 2,xv 6 55])))) (.seq (kr [bI 57 .eql 15 6,xv 56 57] (.cond 56 (.skip) (xr [bI 58 .eql 15 8,xv 56 58]))) (.cond 56 (kr [xv 60 1,xk 61 60,xm 62 3 61,xc1 63 80 (.t 62),xv 59 63,xX 64 59 0,xX 65 59 1,xX 66 59 2,xo 9 (.alloc [.int .i64 0,.nil,.bool false]),xS 3 9 64,xv 10 65,xv 11 66] (kr [xv 67 1,xm 68 3 9,xk 69 67,xS 3 69 68] (.seq (.dreg (.take 0 (xv 70 0) (.take 1 (xk 71 70) (.take 2 (xa 72 1 71) (.take 3 (xl 73 72) (.take 4 (xa 74 1 5) (.take 5 (xl 75 74) (.take 6 (xv 76 0) (.take 7 (xk 77 76) (.take 8 (xa 78 1 77) (.take 9 (xl 79 78) (.take 10 (xa 80 3 5) (.take 11 (xl 81 80) (.take 12 (xv 82 10) (.only 13 [] (xv 83 11) (.only 14 [] (bI 84 .eql 83 0) (.only 15 [] (xc1 85 78 (.t 84)) (.only 16 [0,1,2,3,4,5,9,12,8,7,6] (xD 86 1 73 75) (.only 17 [0,1,2,3,4,5,9,12,8,7,6] (xS 1 86 82) (.only 18 [0,1,2,3,4,5,6,7,8,9,10,11,12] (xD 87 1 79 81) (.only 19 [0,1,2,3,4,5,6,7,8,9,10,11,12] (xS 1 87 85) (.done)))))))))))))))))))))) (.seq (kr [xv 88 11,bI 89 .eql 88 3,xv 90 89,ya 91 0 5 90,yl 92 1 91 90,yI 93 .eql 92 8 90,xP 94 90 93] (.cond 94 (.dreg (.take 0 (xv 95 0) (.take 1 (xk 96 95) (.take 2 (xa 97 1 96) (.take 3 (xl 98 97) (.only 4 [] (xa 99 3 5) (.only 5 [] (xl 100 99) (.only 6 [0,1,2,3] (xD 101 1 98 100) (.only 7 [0,1,2,3] ⟨none,.store 1 (.t 101) (xi 2),none⟩ (.done)))))))))) (.skip))) (kR [xv 102 11,bI 103 .neq 102 2,xv 6 103]))))) (.skip))))))) (kr [xv 105 1,xk 106 105,xm 107 3 106,xc1 108 81 (.t 107),xv 104 108,xX 109 104 0,xX 110 104 1,xo 12 (.alloc [.int .i64 0,.nil,.bool false]),xS 3 12 109,xv 13 110] (kr [xv 111 1,xm 112 3 12,xk 113 111,xS 3 113 112] (kR [xv 114 13,bI 115 .neq 114 2,xv 6 115]))))⟩
def compute (op a b:Int):Int:=if op=2 then IntKind.i64.wrap (a+b) else if op=3 then IntKind.i64.wrap (a-b) else numb (decide (a<b))
theorem compute_ok (op a b:Int):CallOk Tryz.prog num 60 [.int .i64 op,.int .i64 a,.int .i64 b] [] (.int .i64 (compute op a b)):=by
 refine EN m60 Tryz.func259 ?_
 unfold m60
 by_cases h2:op=2
 ·simp only [go_sem,seval,h2]
  repeat refine K ?_
  refine fz ?_; simp [FinS,nilL,nilV,oneOr,-List.drop_one]
  simp [compute,h2]
 by_cases h3:op=3
 ·simp only [go_sem,seval,h3]
  repeat refine K ?_
  refine fz ?_; simp [FinS,nilL,nilV,oneOr,-List.drop_one]
  simp [compute,h3]
 simp only [go_sem,seval,h2,h3]
 repeat refine K ?_
 refine CA [] (qD3 (decide (a<b))) ?_
 try simp only [go_sem,seval]
 repeat refine K ?_
 refine fz ?_; simp [FinS,nilL,nilV,oneOr,-List.drop_one]
 simp [compute,h2,h3]
def reg (t:Thread) (r:Int):Int:=t.regs.getD r.toNat 0
def setReg (t:Thread) (r v:Int):Thread:=⟨t.at_,t.regs.set r.toNat v,t.st⟩
def chanStep (t:Thread) (c:Chan) (x:Ins):Thread×Chan×Bool :=
 if x.op=5∨x.op=7 then
  (if x.op=7∧¬(chanSend c (reg t x.a)).2=2 then setReg t x.r (numb (decide ((chanSend c (reg t x.a)).2=0))) else t,(chanSend c (reg t x.a)).1,!decide ((chanSend c (reg t x.a)).2=2))
 else if x.op=6∨x.op=8 then
  (if (chanTake c).2.2=3∧x.op=8 then setReg (setReg (setReg t x.r (chanTake c).2.1) x.b (numb (decide ((chanTake c).2.2=0)))) x.b 2 else setReg (setReg t x.r (chanTake c).2.1) x.b (numb (decide ((chanTake c).2.2=0))),(chanTake c).1,!decide ((chanTake c).2.2=2))
 else (t,(chanClose c).1,!decide ((chanClose c).2=2))
theorem chanStep_ok (ths:List Thread) (i:Nat) (chs:List Chan) (j:Nat) (x:Ins) (hi:i<ths.length) (hj:j<chs.length) (hr:(ths.getD i default).regs.length=4) (hc:(chs.getD j default).list.length<2^40)
  (r0:0≤x.r) (r1:x.r.toNat<4) (a0:0≤x.a) (a1:x.a.toNat<4) (b0:0≤x.b) (b1:x.b.toNat<4) :
  CallOk Tryz.prog num 61 [.ptr 0 i 0,.ptr 1 j 0,.agg (insC x)] [(0,some (3,threads .own ths),some (3,threads .own (ths.set i (chanStep (ths.getD i default) (chs.getD j default) x).1))),
   (1,some (3,chans .own chs),some (3,chans .own (chs.set j (chanStep (ths.getD i default) (chs.getD j default) x).2.1)))] (.bool (chanStep (ths.getD i default) (chs.getD j default) x).2.2):=by
 refine EH m61 Tryz.func260 ?_
 unfold m61
 have gt :∀r,((threads .own ths).set i r).getD i []=r:=fun r=>qAb _ _ _ _ (by rw [qBo]; exact hi)
 have gc :∀r,((chans .own chs).set j r).getD j []=r:=fun r=>qAb _ _ _ _ (by rw [chans_length]; exact hj)
 have ra:x.a.toNat<(ths.getD i default).regs.length:=by omega
 have rr:x.r.toNat<(ths.getD i default).regs.length:=by omega
 have rb:x.b.toNat<(ths.getD i default).regs.length:=by omega
 have rbs :∀v,x.b.toNat<((ths.getD i default).regs.set x.r.toNat v).length:=fun v=>by rw [List.length_set]; exact rb
 have rbs2 :∀v u,x.b.toNat<(((ths.getD i default).regs.set x.r.toNat v).set x.b.toNat u).length:=fun v u=>by rw [List.length_set,List.length_set]; exact rb
 have rr:x.r.toNat<(ths.getD i default).regs.length:=by omega
 have rb:x.b.toNat<(ths.getD i default).regs.length:=by omega
 have rbs :∀v,x.b.toNat<((ths.getD i default).regs.set x.r.toNat v).length:=fun v=>by rw [List.length_set]; exact rb
 have rbs2 :∀v u,x.b.toNat<(((ths.getD i default).regs.set x.r.toNat v).set x.b.toNat u).length:=fun v u=>by rw [List.length_set,List.length_set]; exact rb
 by_cases h5:x.op=5
 ·simp only [go_sem,seval,h5,qA5 .own ths i hi,qB1 .own chs j hj,gt,gc,qA0 (ths.getD i default).regs x.a.toNat ra]
  repeat refine K ?_
  refine ⟨?_,?_⟩
  ·repeat refine K ?_
   refine DA [] (implChanSend_ok (chs.getD j default) ((ths.getD i default).regs.getD x.a.toNat 0) (by omega)) ?_
   try simp only [go_sem,seval]
   repeat refine K ?_
   simp only [go_sem,seval,h5,gt,gc]
   repeat refine K ?_
   apply qAi
   ·refine Sub.trans (Sub.foldAt 0 1 12 rfl (by simp [-gD]<;>omega) rfl (by decide) (by decide) rfl (by simp<;>omega)) ?_
    simp only [fS,qA,qC]
    refine Sub.trans (Sub.foldAt 1 1 13 rfl (by simp [-gD]<;>omega) rfl (by decide) (by decide) rfl (by simp<;>omega)) ?_
    simp only [fS,qA,qC]
    exact Sub.refl _
   ·simp [-List.drop_one,-gD,qA4,qAs,chanStep,reg,setReg,h5]<;>(first | rfl | exact ⟨rfl,rfl⟩ | exact ⟨rfl,rfl,rfl⟩ | skip)
  ·repeat refine K ?_
   refine DA [] (implChanSend_ok (chs.getD j default) ((ths.getD i default).regs.getD x.a.toNat 0) (by omega)) ?_
   try simp only [go_sem,seval]
   repeat refine K ?_
   simp only [go_sem,seval,h5,gt,gc]
   repeat refine K ?_
   apply qAi
   ·refine Sub.trans (Sub.foldAt 0 1 12 rfl (by simp [-gD]<;>omega) rfl (by decide) (by decide) rfl (by simp<;>omega)) ?_
    simp only [fS,qA,qC]
    refine Sub.trans (Sub.foldAt 1 1 14 rfl (by simp [-gD]<;>omega) rfl (by decide) (by decide) rfl (by simp<;>omega)) ?_
    simp only [fS,qA,qC]
    exact Sub.refl _
   ·simp [-List.drop_one,-gD,qA4,qAs,chanStep,reg,setReg,h5]<;>(first | rfl | exact ⟨rfl,rfl⟩ | exact ⟨rfl,rfl,rfl⟩ | skip)
 by_cases h7:x.op=7
 ·simp only [go_sem,seval,h7,qA5 .own ths i hi,qB1 .own chs j hj,gt,gc,qA0 (ths.getD i default).regs x.a.toNat ra]
  repeat refine K ?_
  refine ⟨?_,?_⟩
  ·repeat refine K ?_
   refine DA [] (implChanSend_ok (chs.getD j default) ((ths.getD i default).regs.getD x.a.toNat 0) (by omega)) ?_
   try simp only [go_sem,seval]
   repeat refine K ?_
   simp only [go_sem,seval,h7,gt,gc]
   repeat refine K ?_
   by_cases hk:(chanSend (chs.getD j default) ((ths.getD i default).regs.getD x.a.toNat 0)).2=2
   ·simp only [go_sem,seval,hk,gt,gc,h7]
    repeat refine K ?_
    apply qAi
    ·refine Sub.trans (Sub.foldAt 0 1 12 rfl (by simp [-gD]<;>omega) rfl (by decide) (by decide) rfl (by simp<;>omega)) ?_
     simp only [fS,qA,qC]
     refine Sub.trans (Sub.foldAt 1 1 13 rfl (by simp [-gD]<;>omega) rfl (by decide) (by decide) rfl (by simp<;>omega)) ?_
     simp only [fS,qA,qC]
     exact Sub.refl _
    ·simp [-List.drop_one,-gD,qA4,qAs,chanStep,reg,setReg,h7,hk]<;>(first | rfl | exact ⟨rfl,rfl⟩ | exact ⟨rfl,rfl,rfl⟩ | skip)
   ·simp only [go_sem,seval,hk,gt,gc,h7]
    repeat refine K ?_
    refine DA [] (qD3 (decide ((chanSend (chs.getD j default) ((ths.getD i default).regs.getD x.a.toNat 0)).2=0))) ?_
    try simp only [go_sem,seval]
    repeat refine K ?_
    simp only [go_sem,seval,gt,gc,h7,qA0 (ths.getD i default).regs x.r.toNat rr,hk]
    repeat refine K ?_
    apply qAi
    ·refine Sub.trans (Sub.foldAt 0 1 12 rfl (by simp [-gD]<;>omega) rfl (by decide) (by decide) rfl (by simp<;>omega)) ?_
     simp only [fS,qA,qC]
     refine Sub.trans (Sub.foldAt 1 1 13 rfl (by simp [-gD]<;>omega) rfl (by decide) (by decide) rfl (by simp<;>omega)) ?_
     simp only [fS,qA,qC]
     exact Sub.refl _
    ·simp [-List.drop_one,-gD,qA4,qAs,chanStep,reg,setReg,h7,hk]<;>(first | rfl | exact ⟨rfl,rfl⟩ | exact ⟨rfl,rfl,rfl⟩ | skip)
  ·repeat refine K ?_
   refine DA [] (implChanSend_ok (chs.getD j default) ((ths.getD i default).regs.getD x.a.toNat 0) (by omega)) ?_
   try simp only [go_sem,seval]
   repeat refine K ?_
   simp only [go_sem,seval,h7,gt,gc]
   repeat refine K ?_
   by_cases hk:(chanSend (chs.getD j default) ((ths.getD i default).regs.getD x.a.toNat 0)).2=2
   ·simp only [go_sem,seval,hk,gt,gc,h7]
    repeat refine K ?_
    apply qAi
    ·refine Sub.trans (Sub.foldAt 0 1 12 rfl (by simp [-gD]<;>omega) rfl (by decide) (by decide) rfl (by simp<;>omega)) ?_
     simp only [fS,qA,qC]
     refine Sub.trans (Sub.foldAt 1 1 14 rfl (by simp [-gD]<;>omega) rfl (by decide) (by decide) rfl (by simp<;>omega)) ?_
     simp only [fS,qA,qC]
     exact Sub.refl _
    ·simp [-List.drop_one,-gD,qA4,qAs,chanStep,reg,setReg,h7,hk]<;>(first | rfl | exact ⟨rfl,rfl⟩ | exact ⟨rfl,rfl,rfl⟩ | skip)
   ·simp only [go_sem,seval,hk,gt,gc,h7]
    repeat refine K ?_
    refine DA [] (qD3 (decide ((chanSend (chs.getD j default) ((ths.getD i default).regs.getD x.a.toNat 0)).2=0))) ?_
    try simp only [go_sem,seval]
    repeat refine K ?_
    simp only [go_sem,seval,gt,gc,h7,qA0 (ths.getD i default).regs x.r.toNat rr,hk]
    repeat refine K ?_
    apply qAi
    ·refine Sub.trans (Sub.foldAt 0 1 12 rfl (by simp [-gD]<;>omega) rfl (by decide) (by decide) rfl (by simp<;>omega)) ?_
     simp only [fS,qA,qC]
     refine Sub.trans (Sub.foldAt 1 1 14 rfl (by simp [-gD]<;>omega) rfl (by decide) (by decide) rfl (by simp<;>omega)) ?_
     simp only [fS,qA,qC]
     exact Sub.refl _
    ·simp [-List.drop_one,-gD,qA4,qAs,chanStep,reg,setReg,h7,hk]<;>(first | rfl | exact ⟨rfl,rfl⟩ | exact ⟨rfl,rfl,rfl⟩ | skip)
 by_cases h6:x.op=6
 ·simp only [go_sem,seval,h6,qA5 .own ths i hi,qB1 .own chs j hj,gt,gc]
  repeat refine K ?_
  refine CA [] (implChanTake_ok (chs.getD j default) (by omega)) ?_
  try simp only [go_sem,seval]
  repeat refine K ?_
  simp only [go_sem,seval,h6,qA5 .own ths i hi,qB1 .own chs j hj,gt,gc]
  repeat refine K ?_
  refine DA [] (qD3 (decide ((chanTake (chs.getD j default)).2.2=0))) ?_
  try simp only [go_sem,seval]
  repeat refine K ?_
  simp only [go_sem,seval,gt,gc,h6,qA0 (ths.getD i default).regs x.r.toNat rr,qA0 _ x.b.toNat (rbs _)]
  repeat refine K ?_
  by_cases hk:(chanTake (chs.getD j default)).2.2=3
  ·simp only [go_sem,seval,hk,gt,gc,h6]
   repeat refine K ?_
   apply qAi
   ·refine Sub.trans (Sub.foldAt 0 1 14 rfl (by simp [-gD]<;>omega) rfl (by decide) (by decide) rfl (by simp<;>omega)) ?_
    simp only [fS,qA,qC]
    refine Sub.trans (Sub.foldAt 1 1 12 rfl (by simp [-gD]<;>omega) rfl (by decide) (by decide) rfl (by simp<;>omega)) ?_
    simp only [fS,qA,qC]
    exact Sub.refl _
   ·simp [-List.drop_one,-gD,qA4,qAs,chanStep,reg,setReg,h6,hk]<;>(first | rfl | exact ⟨rfl,rfl⟩ | exact ⟨rfl,rfl,rfl⟩ | skip)
  ·simp only [go_sem,seval,hk,gt,gc,h6]
   repeat refine K ?_
   apply qAi
   ·refine Sub.trans (Sub.foldAt 0 1 14 rfl (by simp [-gD]<;>omega) rfl (by decide) (by decide) rfl (by simp<;>omega)) ?_
    simp only [fS,qA,qC]
    refine Sub.trans (Sub.foldAt 1 1 12 rfl (by simp [-gD]<;>omega) rfl (by decide) (by decide) rfl (by simp<;>omega)) ?_
    simp only [fS,qA,qC]
    exact Sub.refl _
   ·simp [-List.drop_one,-gD,qA4,qAs,chanStep,reg,setReg,h6,hk]<;>(first | rfl | exact ⟨rfl,rfl⟩ | exact ⟨rfl,rfl,rfl⟩ | skip)
 by_cases h8:x.op=8
 ·simp only [go_sem,seval,h8,qA5 .own ths i hi,qB1 .own chs j hj,gt,gc]
  repeat refine K ?_
  refine CA [] (implChanTake_ok (chs.getD j default) (by omega)) ?_
  try simp only [go_sem,seval]
  repeat refine K ?_
  simp only [go_sem,seval,h8,qA5 .own ths i hi,qB1 .own chs j hj,gt,gc]
  repeat refine K ?_
  refine DA [] (qD3 (decide ((chanTake (chs.getD j default)).2.2=0))) ?_
  try simp only [go_sem,seval]
  repeat refine K ?_
  simp only [go_sem,seval,gt,gc,h8,qA0 (ths.getD i default).regs x.r.toNat rr,qA0 _ x.b.toNat (rbs _)]
  repeat refine K ?_
  by_cases hk:(chanTake (chs.getD j default)).2.2=3
  ·simp only [go_sem,seval,hk,gt,gc,h8,qA0 _ x.b.toNat (rbs2 _ _)]
   repeat refine K ?_
   apply qAi
   ·refine Sub.trans (Sub.foldAt 0 1 14 rfl (by simp [-gD]<;>omega) rfl (by decide) (by decide) rfl (by simp<;>omega)) ?_
    simp only [fS,qA,qC]
    refine Sub.trans (Sub.foldAt 1 1 12 rfl (by simp [-gD]<;>omega) rfl (by decide) (by decide) rfl (by simp<;>omega)) ?_
    simp only [fS,qA,qC]
    exact Sub.refl _
   ·simp [-List.drop_one,-gD,qA4,qAs,chanStep,reg,setReg,h8,hk]<;>(first | rfl | exact ⟨rfl,rfl⟩ | exact ⟨rfl,rfl,rfl⟩ | skip)
  ·simp only [go_sem,seval,hk,gt,gc,h8]
   repeat refine K ?_
   apply qAi
   ·refine Sub.trans (Sub.foldAt 0 1 14 rfl (by simp [-gD]<;>omega) rfl (by decide) (by decide) rfl (by simp<;>omega)) ?_
    simp only [fS,qA,qC]
    refine Sub.trans (Sub.foldAt 1 1 12 rfl (by simp [-gD]<;>omega) rfl (by decide) (by decide) rfl (by simp<;>omega)) ?_
    simp only [fS,qA,qC]
    exact Sub.refl _
   ·simp [-List.drop_one,-gD,qA4,qAs,chanStep,reg,setReg,h8,hk]<;>(first | rfl | exact ⟨rfl,rfl⟩ | exact ⟨rfl,rfl,rfl⟩ | skip)
 simp only [go_sem,seval,h5,h6,h7,h8,qB1 .own chs j hj,gc]
 repeat refine K ?_
 refine CA [] (implChanClose_ok (chs.getD j default) (by omega)) ?_
 try simp only [go_sem,seval]
 repeat refine K ?_
 simp only [go_sem,seval,h5,h6,h7,h8,gc]
 repeat refine K ?_
 apply qAi
 ·refine Sub.trans (Sub.foldAt 1 1 12 rfl (by simp [-gD]<;>omega) rfl (by decide) (by decide) rfl (by simp<;>omega)) ?_
  simp only [fS,qA,qC]
  exact Sub.refl _
 ·simp [-List.drop_one,-gD,qA4,qAs,chanStep,h5,h6,h7,h8]<;>(first | rfl | exact ⟨rfl,rfl⟩ | exact ⟨rfl,rfl,rfl⟩ | skip)
  rw [qAf ths i default hi]
end Go.Sep
