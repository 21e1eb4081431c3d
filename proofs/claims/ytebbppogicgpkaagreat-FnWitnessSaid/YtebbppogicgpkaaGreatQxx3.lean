/- Contracts of functions. -/
import Derived.Test.YtebbppogicgpkaaGreatQxx1
import Derived.Test.YtebbppogicgpkaaGreatQxx4
namespace Go.Sep
set_option maxHeartbeats 16000000
open Go.Proofs
set_option linter.unusedSimpArgs false
set_option linter.unusedVariables false
set_option maxRecDepth 100000
def m70:MFn:=⟨8,[.cell 2 3 true],kr [xb 1 0,xo 2 (.alloc [.int .i64 0,.nil,.bool false])] (kr [xa 3 1 1,xl 4 3,xc1 5 36 (.t 4),xa 6 1 1,xS 1 6 5] (kR [xm 7 3 1,xS 3 2 7]))⟩
def m72:MFn:=⟨14,[.t 2],kr [xb 1 0,xF 2] (kR [xa 3 0 1,xl 4 3,xc3 5 59 (.t 4) (xi 1) (xi 4),xv 6 5,ya 7 1 1 6,yl 8 1 7 6,ye 9 8 6,ya 10 0 1 6,yl 11 1 10 6,xg 12 (.bin .leq (.t 9) (.t 11)) 6 true,xP 13 6 12,xv 2 13])⟩
attribute [local go_sem] paramT preH e_seq e_reg e_block e_loop e_ops e_skip e_ret e_cond e_guard e_call e_ops1 plan next_ok next_some Arg.ev lookT putD putT if_false if_true app1 put del qB6 binA Option.map_some Option.bind_some look Int.toNat_natCast e_blk e_stop e_exit exitIt true_and and_true maybe_do maybe_tf maybe_ft branch_true branch_false Bool.false_eq_true bnd? cellsOf openL List.isEmpty_nil List.isEmpty_cons fresh List.map_nil List.map_cons List.cons_append List.nil_append splice List.take_zero List.drop_zero List.take_succ_cons List.getD_cons_zero List.length_cons List.length_nil List.drop_succ_cons List.drop_nil List.append_nil List.all_cons List.all_nil cellOk Bool.and_self Nat.zero_add e_dreg e_done e_take e_only1 e_onlyc e_takeg e_onlyg e_both e_tri dnext_some dnext_ok dmaybe_do rdTake pdTake addP rdOnly pdOnly isRead alive needs undep apart List.filter_nil List.filter_cons Option.isSome_some Option.isSome_none List.contains_nil List.contains_cons List.forall_mem_cons List.mem_cons List.not_mem_nil false_implies implies_true forall_const forall_eq_or_imp forall_eq or_false beq_self_eq_true Bool.or_false Bool.false_or Bool.true_or Bool.or_true Bool.not_true Bool.not_false xv xo xg xr xi xz List.set_set maybe_skip dmaybe_skip dmaybe_tf dmaybe_ft fillR fillROk fillA fillOk srcA eqC bytesOf ints_append List.replicate_zero decide_true decide_false ints_set nil_bind List.replicate_succ Int.toNat_zero Int.toNat_one eq_self Bool.and_true Bool.true_and Bool.and_false Bool.false_and List.set_cons_zero List.set_cons_succ List.getD_cons_succ rnm ixm renV renL openV openVs cond_true cond_false ints_drop ints_take drop_all
attribute [local simp] hand bwT bwC bwL qAv ints_take lookT Arg.ev handOk bwOk bwOks bwTs nf_sl nf_int nf_bool qA9 okV okL nb nbs nbr qAt look qB6 bnd bnds bndr renV renL ixm rnm apart needs rdOnly pdOnly fresh openV openVs resAV allP giveL giveV postH del isOwn partR ints_drop drop_all shp okB okBs ints_free
theorem chans_getD (m:Mode) (l:List Chan) (i:Nat) (h:i<l.length):(chans m l).getD i []=[.int .i64 (l.getD i default).cap,.sl m 1 (ints (l.getD i default).list),.bool (l.getD i default).closed]:=by simp [chans,chanC,List.getD_eq_getElem?_getD,h]
theorem threads_getD (m:Mode) (l:List Thread) (i:Nat) (h:i<l.length):(threads m l).getD i []=[.int .i64 (l.getD i default).at_,.sl m 1 (ints (l.getD i default).regs),.int .i64 (l.getD i default).st]:=by simp [threads,threadC,List.getD_eq_getElem?_getD,h]
theorem copyChan_ok (c:Chan) (hx:8*c.list.length≤2^47):CallOk Tryz.prog num 70 [.agg (chanC .bw c)] [] (.agg (chanC .own c)):=by
 refine EN m70 Tryz.func144 ?_
 unfold m70
 simp only [go_sem,seval]
 repeat refine K ?_
 refine CA [] (copyInts_ok c.list hx) ?_
 try simp only [go_sem,seval]
 repeat refine K ?_
 refine fz ?_; simp [FinS,nilL,nilV,oneOr,-List.drop_one]
theorem implChanOk_ok (c:Chan):CallOk Tryz.prog num 72 [.agg (chanC .bw c)] [] (.bool (chanOk c)):=by
 refine EN m72 Tryz.func145 ?_
 unfold m72
 simp only [go_sem,seval]
 repeat refine K ?_
 refine CA [] (within_ok c.cap 1 4) ?_
 try simp only [go_sem,seval]
 repeat refine K ?_
 cases h:within c.cap 1 4
 ·simp only [go_sem,seval,h]
  repeat refine K ?_
  refine fz ?_; simp [FinS,nilL,nilV,oneOr,-List.drop_one]
  simp [chanOk,h]
 ·simp only [go_sem,seval,h]
  repeat refine K ?_
  refine fz ?_; simp [FinS,nilL,nilV,oneOr,-List.drop_one]
  simp [chanOk,h]
def m79:MFn:=⟨33,[.cell 4 3 true,.t 5],kr [xb 2 0,xo 4 (.alloc [.int .i64 0,.nil,.bool false]),xI 5 0] (kr [xm 7 3 2,xc1 8 70 (.t 7),xo 6 (.alloc [.int .i64 0,.nil,.bool false]),xS 3 6 8] (.seq (.blk 0 (kr [xa 10 2 2,xl 11 10,xv 12 11,xg 13 (.load 3 true (.t 2)) 12 false,xg 14 (.call 72 [false] [.t 13]) 12 false,zN 15 14 12,xQ 16 12 15,xv 9 16] (.cond 9 (kR [xm 17 3 6,xS 3 4 17,xI 5 2]) (kr [xa 19 1 2,xl 20 19,xe 21 20,xa 22 0 2,xl 23 22,bT 24 .eql 21 23,xv 18 24] (kF 18 [xm 25 3 6,xS 3 4 25,xI 5 1]))))) (kr [xa 26 1 6,xl 27 26,xv 28 1,xo 29 (.mkSl [xz] 1 [(0,.t 28)]),xA 30 1 8 27 29,xa 31 1 6,xS 1 31 30] (kR [xm 32 3 6,xS 3 4 32,xI 5 0]))))⟩
def m80:MFn:=⟨32,[.cell 2 3 true,.t 3,.t 4],kr [xb 1 0,xo 2 (.alloc [.int .i64 0,.nil,.bool false]),xI 3 0,xI 4 0] (kr [xm 6 3 1,xc1 7 70 (.t 6),xo 5 (.alloc [.int .i64 0,.nil,.bool false]),xS 3 5 7] (.seq (.blk 0 (kr [xm 9 3 1,xc1 10 72 (.t 9),xN 11 10,xv 8 11] (.cond 8 (kR [xm 12 3 5,xS 3 2 12,xI 3 0,xI 4 2]) (kr [xa 14 1 1,xl 15 14,xe 16 15,bI 17 .gtr 16 0,xv 13 17] (.cond 13 (kr [xa 18 1 5,xl 19 18,xo 20 (.cut 1 (.t 19) (some (xi 1)) none),xa 21 1 5,xS 1 21 20] (.seq (.dreg (.take 0 (xm 22 3 5) (.take 1 (xa 23 1 1) (.take 2 (xl 24 23) (.take 3 (xo 25 (.iad 1 (.t 24) (xi 0))) (.take 4 (xl 26 25) (.only 5 [0] (xS 3 2 22) (.only 6 [0,1,2,3,4] (xv 3 26) (.only 7 [0,1,2,3,4] (xI 4 0) (.done)))))))))) (.ret))) (kr [xa 28 2 1,xl 29 28,xv 27 29] (kF 27 [xm 30 3 5,xS 3 2 30,xI 3 0,xI 4 3]))))))) (kR [xm 31 3 5,xS 3 2 31,xI 3 0,xI 4 1])))⟩
def m81:MFn:=⟨17,[.cell 2 3 true,.t 3],kr [xb 1 0,xo 2 (.alloc [.int .i64 0,.nil,.bool false]),xI 3 0] (kr [xm 5 3 1,xc1 6 70 (.t 5),xo 4 (.alloc [.int .i64 0,.nil,.bool false]),xS 3 4 6] (.seq (kr [xa 7 2 1,xl 8 7,xv 9 8,xg 10 (.load 3 true (.t 1)) 9 false,xg 11 (.call 72 [false] [.t 10]) 9 false,zN 12 11 9,xQ 13 9 12] (kF 13 [xm 14 3 4,xS 3 2 14,xI 3 2])) (kr [xa 15 2 4,⟨none,.store 1 (.t 15) (.c (.bool true)),none⟩] (kR [xm 16 3 4,xS 3 2 16,xI 3 0]))))⟩
theorem implChanSend_ok (c:Chan) (v:Int) (hx:8*c.list.length<2^46):CallOk Tryz.prog num 79 [.agg (chanC .bw c),.int .i64 v] [] (.tup [.agg (chanC .own (chanSend c v).1),.int .i64 (chanSend c v).2]):=by
 refine EN m79 Tryz.func186 ?_
 unfold m79
 simp only [go_sem,seval]
 repeat refine K ?_
 refine CA [] (copyChan_ok c (by omega)) ?_
 try simp only [go_sem,seval]
 repeat refine K ?_
 cases hc:c.closed
 ·simp only [go_sem,seval,hc]
  repeat refine K ?_
  refine CA [] (implChanOk_ok c) ?_
  try simp only [go_sem,seval]
  repeat refine K ?_
  cases ho:chanOk c
  ·simp only [go_sem,seval,ho,hc]
   repeat refine K ?_
   refine fz ?_; simp [FinS,nilL,nilV,oneOr,-List.drop_one]
   simp [chanSend,hc,ho]
  ·simp only [go_sem,seval,ho,hc]
   repeat refine K ?_
   by_cases hl:(c.list.length:Int)=c.cap
   ·simp only [go_sem,seval,hl]
    repeat refine K ?_
    refine fz ?_; simp [FinS,nilL,nilV,oneOr,-List.drop_one]
    simp [chanSend,hc,ho,hl]
   ·simp only [go_sem,seval,hl]
    repeat refine K ?_
    refine fz ?_; simp [FinS,nilL,nilV,oneOr,-List.drop_one]
    simp [chanSend,hc,ho,hl,ints]
 ·simp only [go_sem,seval,hc]
  repeat refine K ?_
  refine fz ?_; simp [FinS,nilL,nilV,oneOr,-List.drop_one]
  simp [chanSend,hc]
theorem implChanTake_ok (c:Chan) (hx:8*c.list.length<2^46):CallOk Tryz.prog num 80 [.agg (chanC .bw c)] [] (.tup [.agg (chanC .own (chanTake c).1),.int .i64 (chanTake c).2.1,.int .i64 (chanTake c).2.2]):=by
 refine EN m80 Tryz.func187 ?_
 unfold m80
 simp only [go_sem,seval]
 repeat refine K ?_
 refine CA [] (copyChan_ok c (by omega)) ?_
 try simp only [go_sem,seval]
 repeat refine K ?_
 refine CA [] (implChanOk_ok c) ?_
 try simp only [go_sem,seval]
 repeat refine K ?_
 cases ho:chanOk c
 ·simp only [go_sem,seval,ho]
  repeat refine K ?_
  refine fz ?_; simp [FinS,nilL,nilV,oneOr,-List.drop_one]
  simp [chanTake,ho]
 ·simp only [go_sem,seval,ho]
  repeat refine K ?_
  by_cases hl:(0:Int)<c.list.length
  ·have hl':0<c.list.length:=by omega
   simp only [go_sem,seval,hl,ints_getD c.list 0 hl']
   repeat refine K ?_
   refine fz ?_; simp [FinS,nilL,nilV,oneOr,-List.drop_one]
   simp [chanTake,ho,hl']<;>try omega
  ·have hl' :¬0<c.list.length:=by omega
   simp only [go_sem,seval,hl]
   repeat refine K ?_
   cases hc:c.closed
   ·simp only [go_sem,seval,hc]
    repeat refine K ?_
    refine fz ?_; simp [FinS,nilL,nilV,oneOr,-List.drop_one]
    simp [chanTake,ho,hl',hc]
   ·simp only [go_sem,seval,hc]
    repeat refine K ?_
    refine fz ?_; simp [FinS,nilL,nilV,oneOr,-List.drop_one]
    simp [chanTake,ho,hl',hc]
theorem implChanClose_ok (c:Chan) (hx:8*c.list.length<2^46):CallOk Tryz.prog num 81 [.agg (chanC .bw c)] [] (.tup [.agg (chanC .own (chanClose c).1),.int .i64 (chanClose c).2]):=by
 refine EN m81 Tryz.func188 ?_
 unfold m81
 simp only [go_sem,seval]
 repeat refine K ?_
 refine CA [] (copyChan_ok c (by omega)) ?_
 try simp only [go_sem,seval]
 repeat refine K ?_
 cases hc:c.closed
 ·simp only [go_sem,seval,hc]
  repeat refine K ?_
  refine CA [] (implChanOk_ok c) ?_
  try simp only [go_sem,seval]
  repeat refine K ?_
  cases ho:chanOk c
  ·simp only [go_sem,seval,ho]
   repeat refine K ?_
   refine fz ?_; simp [FinS,nilL,nilV,oneOr,-List.drop_one]
   simp [chanClose,hc,ho]
  ·simp only [go_sem,seval,ho]
   repeat refine K ?_
   refine fz ?_; simp [FinS,nilL,nilV,oneOr,-List.drop_one]
   simp [chanClose,hc,ho]
 ·simp only [go_sem,seval,hc]
  repeat refine K ?_
  refine fz ?_; simp [FinS,nilL,nilV,oneOr,-List.drop_one]
  simp [chanClose,hc]
end Go.Sep
