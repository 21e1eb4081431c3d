/- Contracts of functions. -/
import Derived.Test.YtjbknbgdfhihcaaGreatJxx2
namespace Go.Sep
set_option maxHeartbeats 16000000
open Go.Proofs
set_option linter.unusedSimpArgs false
set_option linter.unusedVariables false
set_option maxRecDepth 100000
open Nat renaming reduceAdd → qA, reduceMul → qB, reduceEqDiff → qC, reduceBEq → qD
open Int renaming reduceToNat → qE, reduceEq → qF, reduceLT → qG, reduceLE → qH
open List renaming getD_eq_getElem?_getD → gD
attribute [local go_sem] paramT preH e_seq e_reg e_block e_loop e_ops e_skip e_ret e_cond e_guard e_call e_ops1 plan next_ok next_some Arg.ev lookT putD putT if_false if_true app1 put del qBf binA Option.map_some Option.bind_some look Int.toNat_natCast e_blk e_stop e_exit exitIt true_and and_true maybe_do maybe_tf maybe_ft branch_true qE4 Bool.false_eq_true bnd? cellsOf openL List.isEmpty_nil List.isEmpty_cons fresh List.map_nil List.map_cons List.cons_append List.nil_append splice List.take_zero List.drop_zero List.take_succ_cons List.getD_cons_zero List.length_cons List.length_nil List.drop_succ_cons List.drop_nil List.append_nil List.all_cons List.all_nil cellOk Bool.and_self Nat.zero_add e_dreg e_done e_take e_only1 e_onlyc e_takeg e_onlyg e_both e_tri dnext_some dnext_ok dmaybe_do rdTake pdTake addP rdOnly pdOnly isRead alive needs undep apart List.filter_nil List.filter_cons Option.isSome_some Option.isSome_none List.contains_nil List.contains_cons List.forall_mem_cons List.mem_cons List.not_mem_nil false_implies implies_true forall_const forall_eq_or_imp forall_eq or_false beq_self_eq_true Bool.or_false Bool.false_or Bool.true_or Bool.or_true Bool.not_true Bool.not_false xv xo xg xr xi xz List.set_set maybe_skip dmaybe_skip dmaybe_tf dmaybe_ft fillR fillROk fillA fillOk srcA eqC bytesOf ints_append List.replicate_zero decide_true decide_false ints_set nil_bind List.replicate_succ Int.toNat_zero Int.toNat_one eq_self Bool.and_true Bool.true_and Bool.and_false Bool.false_and List.set_cons_zero List.set_cons_succ List.getD_cons_succ rnm ixm renV renL openV openVs cond_true cond_false qD5 qD4 qDu
attribute [local simp] hand bwT bwC bwL qC1 qD4 lookT Arg.ev handOk bwOk bwOks bwTs nf_sl nf_int nf_bool qAo okV okL nb nbs nbr qBy look qBf bnd bnds bndr renV renL ixm rnm apart needs rdOnly pdOnly fresh openV openVs resAV allP giveL giveV postH del isOwn partR qD5 qDu shp okB okBs ints_free
theorem notes_rep (n:Nat) (who_:Int) (v_:Int):List.replicate n [.int .i64 who_,.int .i64 v_]=notes (List.replicate n ⟨who_,v_⟩):=by simp [notes,noteC]
def m115:MFn:=⟨11,[.cell 2 2 true],kr [xb 1 0,xo 2 (.alloc [xz,xz])] (kr [xo 3 (.alloc [xz,xz])] (kr [xa 4 0 1,xl 5 4,xa 6 0 3,xS 1 6 5] (kr [xa 7 1 1,xl 8 7,xa 9 1 3,xS 1 9 8] (kR [xm 10 2 3,xS 2 2 10]))))⟩
def m116:MFn:=⟨23,[.t 2],kr [xo 2 (.mv (.c (.nil)))] (kr [xv 5 0,xe 6 5,xo 7 (.mkS [xz,xz] 16 (.t 6) (.t 6)),xv 3 7] (.seq (kr [xI 4 0] (.blk 0 (.loop (.seq (kr [xv 8 4,xv 9 0,xe 10 9,bT 11 .lss 8 10] (kX 11 0)) (.seq (.blk 1 (xr [xv 14 3,xv 15 4,xv 16 0,xv 17 4,xD 18 2 16 17,xm 19 2 18,xc1 20 115 (.t 19),xD 21 2 14 15,xS 2 21 20])) (xr [xv 12 4,bI 13 .add 12 1,xv 4 13])))))) (kR [xv 22 3,xv 2 22])))⟩
def m117:MFn:=⟨12,[.t 4],kr [xI 4 0] (kr [xv 5 1,xv 6 0,xe 7 6,bT 8 .sub 5 7,xv 1 8] (.seq (kr [xv 9 1,bI 10 .lss 9 0] (kF 10 [xo 4 (.mv (.c (.int .i64 (-1))))])) (kR [xv 11 1,xv 4 11])))⟩
def m118:MFn:=⟨15,[.t 4],kr [xb 2 0,xb 3 1,xF 4] (.seq (kr [xa 5 0 2,xl 6 5,xa 7 0 3,xl 8 7,bT 9 .neq 6 8] (kF 9 [xF 4])) (.seq (kr [xa 10 1 2,xl 11 10,xa 12 1 3,xl 13 12,bT 14 .neq 11 13] (kF 14 [xF 4])) (kR [xT 4])))⟩
def m119:MFn:=⟨27,[.t 4],kr [xF 4] (.seq (kr [xv 6 0,xe 7 6,xv 8 1,xe 9 8,bT 10 .neq 7 9] (kF 10 [xF 4])) (.seq (kr [xI 5 0] (.blk 0 (.loop (.seq (kr [xv 11 5,xv 12 0,xe 13 12,bT 14 .lss 11 13] (kX 14 0)) (.seq (.blk 1 (.seq (.dreg (.take 0 (xv 17 0) (.take 1 (xv 18 5) (.take 2 (xD 19 2 17 18) (.take 3 (xm 20 2 19) (.take 4 (xv 21 1) (.only 5 [] (xv 22 5) (.only 6 [4] (xD 23 2 21 22) (.only 7 [6,4] (xm 24 2 23) (.only 8 [3,7,2,6,0,1,4] (xc2 25 118 (.t 20) (.t 24)) (.only 9 [8,3,7,2,6,0,1,4] (xN 26 25) (.done)))))))))))) (kF 26 [xF 4]))) (xr [xv 15 5,bI 16 .add 15 1,xv 5 16])))))) (kR [xT 4])))⟩
def m122:MFn:=⟨15,[.cell 2 3 true],kr [xb 1 0,xo 2 (.alloc [.int .i64 0,.nil,.int .i64 0])] (kr [xo 3 (.alloc [.int .i64 0,.nil,.int .i64 0])] (kr [xa 4 0 1,xl 5 4,xa 6 0 3,xS 1 6 5] (kr [xa 7 1 1,xl 8 7,xc1 9 5 (.t 8),xa 10 1 3,xS 1 10 9] (kr [xa 11 2 1,xl 12 11,xa 13 2 3,xS 1 13 12] (kR [xm 14 3 3,xS 3 2 14])))))⟩
def m123:MFn:=⟨23,[.t 2],kr [xo 2 (.mv (.c (.nil)))] (kr [xv 5 0,xe 6 5,xo 7 (.mkS [.int .i64 0,.nil,.int .i64 0] 40 (.t 6) (.t 6)),xv 3 7] (.seq (kr [xI 4 0] (.blk 0 (.loop (.seq (kr [xv 8 4,xv 9 0,xe 10 9,bT 11 .lss 8 10] (kX 11 0)) (.seq (.blk 1 (xr [xv 14 3,xv 15 4,xv 16 0,xv 17 4,xD 18 3 16 17,xm 19 3 18,xc1 20 122 (.t 19),xD 21 3 14 15,xS 3 21 20])) (xr [xv 12 4,bI 13 .add 12 1,xv 4 13])))))) (kR [xv 22 3,xv 2 22])))⟩
def m124:MFn:=⟨12,[.t 4],kr [xb 2 0,xI 4 0] (kr [xa 5 1 2,xl 6 5,xv 7 1,xc2 8 35 (.t 6) (.t 7),xv 1 8] (.seq (kr [xv 9 1,bI 10 .lss 9 0] (kF 10 [xo 4 (.mv (.c (.int .i64 (-1))))])) (kR [xv 11 1,xv 4 11])))⟩
def m125:MFn:=⟨27,[.t 4],kr [xI 4 0] (kr [xv 6 1,xv 7 0,xe 8 7,bT 9 .sub 6 8,xv 1 9] (.seq (kr [xv 10 1,bI 11 .lss 10 0] (kF 11 [xo 4 (.mv (.c (.int .i64 (-1))))])) (.seq (kr [xI 5 0] (.blk 0 (.loop (.seq (kr [xv 12 5,xv 13 0,xe 14 13,bT 15 .lss 12 14] (kX 15 0)) (.seq (.blk 1 (kr [xv 18 0,xv 19 5,xD 20 3 18 19,xm 21 3 20,xv 22 1,xc2 23 124 (.t 21) (.t 22),xv 1 23] (kr [xv 24 1,bI 25 .lss 24 0] (kF 25 [xo 4 (.mv (.c (.int .i64 (-1))))])))) (xr [xv 16 5,bI 17 .add 16 1,xv 5 17])))))) (kR [xv 26 1,xv 4 26]))))⟩
def m126:MFn:=⟨21,[.t 4],kr [xb 2 0,xb 3 1,xF 4] (.seq (kr [xa 5 0 2,xl 6 5,xa 7 0 3,xl 8 7,bT 9 .neq 6 8] (kF 9 [xF 4])) (.seq (kr [xa 10 1 2,xl 11 10,xa 12 1 3,xl 13 12,xc2 14 8 (.t 11) (.t 13),xN 15 14] (kF 15 [xF 4])) (.seq (kr [xa 16 2 2,xl 17 16,xa 18 2 3,xl 19 18,bT 20 .neq 17 19] (kF 20 [xF 4])) (kR [xT 4]))))⟩
def m127:MFn:=⟨27,[.t 4],kr [xF 4] (.seq (kr [xv 6 0,xe 7 6,xv 8 1,xe 9 8,bT 10 .neq 7 9] (kF 10 [xF 4])) (.seq (kr [xI 5 0] (.blk 0 (.loop (.seq (kr [xv 11 5,xv 12 0,xe 13 12,bT 14 .lss 11 13] (kX 14 0)) (.seq (.blk 1 (.seq (.dreg (.take 0 (xv 17 0) (.take 1 (xv 18 5) (.take 2 (xD 19 3 17 18) (.take 3 (xm 20 3 19) (.take 4 (xv 21 1) (.only 5 [] (xv 22 5) (.only 6 [4] (xD 23 3 21 22) (.only 7 [6,4] (xm 24 3 23) (.only 8 [3,7,2,6,0,1,4] (xc2 25 126 (.t 20) (.t 24)) (.only 9 [8,3,7,2,6,0,1,4] (xN 26 25) (.done)))))))))))) (kF 26 [xF 4]))) (xr [xv 15 5,bI 16 .add 15 1,xv 5 16])))))) (kR [xT 4])))⟩
def m130:MFn:=⟨15,[.cell 2 3 true],kr [xb 1 0,xo 2 (.alloc [.int .i64 0,.nil,.bool false])] (kr [xo 3 (.alloc [.int .i64 0,.nil,.bool false])] (kr [xa 4 0 1,xl 5 4,xa 6 0 3,xS 1 6 5] (kr [xa 7 1 1,xl 8 7,xc1 9 5 (.t 8),xa 10 1 3,xS 1 10 9] (kr [xa 11 2 1,xl 12 11,xa 13 2 3,xS 1 13 12] (kR [xm 14 3 3,xS 3 2 14])))))⟩
def m131:MFn:=⟨23,[.t 2],kr [xo 2 (.mv (.c (.nil)))] (kr [xv 5 0,xe 6 5,xo 7 (.mkS [.int .i64 0,.nil,.bool false] 40 (.t 6) (.t 6)),xv 3 7] (.seq (kr [xI 4 0] (.blk 0 (.loop (.seq (kr [xv 8 4,xv 9 0,xe 10 9,bT 11 .lss 8 10] (kX 11 0)) (.seq (.blk 1 (xr [xv 14 3,xv 15 4,xv 16 0,xv 17 4,xD 18 3 16 17,xm 19 3 18,xc1 20 130 (.t 19),xD 21 3 14 15,xS 3 21 20])) (xr [xv 12 4,bI 13 .add 12 1,xv 4 13])))))) (kR [xv 22 3,xv 2 22])))⟩
def m132:MFn:=⟨12,[.t 4],kr [xb 2 0,xI 4 0] (kr [xa 5 1 2,xl 6 5,xv 7 1,xc2 8 35 (.t 6) (.t 7),xv 1 8] (.seq (kr [xv 9 1,bI 10 .lss 9 0] (kF 10 [xo 4 (.mv (.c (.int .i64 (-1))))])) (kR [xv 11 1,xv 4 11])))⟩
def m133:MFn:=⟨27,[.t 4],kr [xI 4 0] (kr [xv 6 1,xv 7 0,xe 8 7,bT 9 .sub 6 8,xv 1 9] (.seq (kr [xv 10 1,bI 11 .lss 10 0] (kF 11 [xo 4 (.mv (.c (.int .i64 (-1))))])) (.seq (kr [xI 5 0] (.blk 0 (.loop (.seq (kr [xv 12 5,xv 13 0,xe 14 13,bT 15 .lss 12 14] (kX 15 0)) (.seq (.blk 1 (kr [xv 18 0,xv 19 5,xD 20 3 18 19,xm 21 3 20,xv 22 1,xc2 23 132 (.t 21) (.t 22),xv 1 23] (kr [xv 24 1,bI 25 .lss 24 0] (kF 25 [xo 4 (.mv (.c (.int .i64 (-1))))])))) (xr [xv 16 5,bI 17 .add 16 1,xv 5 17])))))) (kR [xv 26 1,xv 4 26]))))⟩
def m134:MFn:=⟨21,[.t 4],kr [xb 2 0,xb 3 1,xF 4] (.seq (kr [xa 5 0 2,xl 6 5,xa 7 0 3,xl 8 7,bT 9 .neq 6 8] (kF 9 [xF 4])) (.seq (kr [xa 10 1 2,xl 11 10,xa 12 1 3,xl 13 12,xc2 14 8 (.t 11) (.t 13),xN 15 14] (kF 15 [xF 4])) (.seq (kr [xa 16 2 2,xl 17 16,xa 18 2 3,xl 19 18,xo 20 (.eqB true (.t 17) (.t 19))] (kF 20 [xF 4])) (kR [xT 4]))))⟩
def m135:MFn:=⟨27,[.t 4],kr [xF 4] (.seq (kr [xv 6 0,xe 7 6,xv 8 1,xe 9 8,bT 10 .neq 7 9] (kF 10 [xF 4])) (.seq (kr [xI 5 0] (.blk 0 (.loop (.seq (kr [xv 11 5,xv 12 0,xe 13 12,bT 14 .lss 11 13] (kX 14 0)) (.seq (.blk 1 (.seq (.dreg (.take 0 (xv 17 0) (.take 1 (xv 18 5) (.take 2 (xD 19 3 17 18) (.take 3 (xm 20 3 19) (.take 4 (xv 21 1) (.only 5 [] (xv 22 5) (.only 6 [4] (xD 23 3 21 22) (.only 7 [6,4] (xm 24 3 23) (.only 8 [3,7,2,6,0,1,4] (xc2 25 134 (.t 20) (.t 24)) (.only 9 [8,3,7,2,6,0,1,4] (xN 26 25) (.done)))))))))))) (kF 26 [xF 4]))) (xr [xv 15 5,bI 16 .add 15 1,xv 5 16])))))) (kR [xT 4])))⟩
def m138:MFn:=⟨17,[.cell 2 3 true],kr [xb 1 0,xo 2 (.alloc [.nil,.nil,.nil])] (kr [xo 3 (.alloc [.nil,.nil,.nil])] (kr [xa 4 0 1,xl 5 4,xc1 6 123 (.t 5),xa 7 0 3,xS 1 7 6] (kr [xa 8 1 1,xl 9 8,xc1 10 131 (.t 9),xa 11 1 3,xS 1 11 10] (kr [xa 12 2 1,xl 13 12,xc1 14 116 (.t 13),xa 15 2 3,xS 1 15 14] (kR [xm 16 3 3,xS 3 2 16])))))⟩
def m139:MFn:=⟨24,[.t 4],kr [xb 2 0,xI 4 0] (kr [xa 5 0 2,xl 6 5,xv 7 1,xc2 8 125 (.t 6) (.t 7),xv 1 8] (.seq (kr [xv 9 1,bI 10 .lss 9 0] (kF 10 [xo 4 (.mv (.c (.int .i64 (-1))))])) (kr [xa 11 1 2,xl 12 11,xv 13 1,xc2 14 133 (.t 12) (.t 13),xv 1 14] (.seq (kr [xv 15 1,bI 16 .lss 15 0] (kF 16 [xo 4 (.mv (.c (.int .i64 (-1))))])) (kr [xa 17 2 2,xl 18 17,xv 19 1,xc2 20 117 (.t 18) (.t 19),xv 1 20] (.seq (kr [xv 21 1,bI 22 .lss 21 0] (kF 22 [xo 4 (.mv (.c (.int .i64 (-1))))])) (kR [xv 23 1,xv 4 23])))))))⟩
def m140:MFn:=⟨23,[.t 4],kr [xb 2 0,xb 3 1,xF 4] (.seq (kr [xa 5 0 2,xl 6 5,xa 7 0 3,xl 8 7,xc2 9 127 (.t 6) (.t 8),xN 10 9] (kF 10 [xF 4])) (.seq (kr [xa 11 1 2,xl 12 11,xa 13 1 3,xl 14 13,xc2 15 135 (.t 12) (.t 14),xN 16 15] (kF 16 [xF 4])) (.seq (kr [xa 17 2 2,xl 18 17,xa 19 2 3,xl 20 19,xc2 21 119 (.t 18) (.t 20),xN 22 21] (kF 22 [xF 4])) (kR [xT 4]))))⟩
theorem tots_app {α:Type} (w:α→Nat) :∀(a b:List α),tots w (a++b)=tots w a+tots w b
 | [],b=>by simp [tots]
 | x::a,b=>by simp only [List.cons_append,tots,tots_app w a b]; omega
theorem tots_take {α:Type} (w:α→Nat) (l:List α) (d:α) (i:Nat) (h:i<l.length):tots w (l.take (i+1))=tots w (l.take i)+w (l.getD i d):=by
 rw [qBm l d i h,tots_app]
 simp [tots]
theorem qDz {α:Type} (w:α→Nat) (l:List α) (i:Nat):tots w (l.take i)≤tots w l:=by
 have:tots w l=tots w (l.take i)+tots w (l.drop i):=by rw [←tots_app,List.take_append_drop]
 omega
theorem tots_const {α:Type} (c:Nat) :∀(l:List α),tots (fun _=>c) l=c*l.length
 | []=>rfl
 | _::l=>by simp only [tots,tots_const c l,List.length_cons]; rw [Nat.mul_add,Nat.mul_one,Nat.add_comm]
theorem qD2 {k:Nat} {n:Int} (h:n<k):szL k n=-1:=by
 unfold szL
 rw [if_pos (by omega)]
theorem szL_big {k:Nat} {n:Int} (h :¬n<k):szL k n=n-k:=by
 unfold szL
 rw [if_neg (by omega)]
theorem toNote_ok (x:Note):CallOk Tryz.prog num 115 [.agg (noteC x)] [] (.agg (noteC x)):=by
 refine EN m115 Tryz.func132 ?_
 unfold m115
 simp only [go_sem,seval]
 repeat refine K ?_
 refine ⟨_,Sub.refl _,qAm ?_⟩; simp [-List.drop_one]
theorem toNoteS_ok (l:List Note) (hl:64*l.length≤2^47):CallOk Tryz.prog num 116 [.sl .bw 2 (notes l)] [] (.sl .own 2 (notes l)):=by
 refine EN m116 Tryz.func60 ?_
 unfold m116
 simp only [go_sem,seval]
 repeat refine K ?_
 refine qA8 (ι:=Nat) (fun i=>.mk [(0,.sl .bw 2 (notes l)),(3,.ns 10 0 l.length),(4,.int .i64 i)] [(10,2,notes (l.take i++List.replicate (l.length-i) ⟨0,0⟩))] 11) (fun i=>i≤l.length) (fun i=>l.length-i) 0 (by simp) ?_ ?_
 ·refine Sub.shape [] id (by omega) ?_ ?_ ?_ ?_<;>simp [qA2]
  left
  exact notes_rep _ _ _
 ·intro i hi
  simp only [go_sem,seval]
  refine qA1 (fun hc=>?_) (fun hc=>?_)
  ·simp only [decide_eq_true_eq] at hc
   have hl':i<l.length:=by omega
   have hm:=qCc l (⟨0,0⟩:Note) i hi
   simp only [go_sem,seval,qCq l i hl',hm]
   repeat refine K ?_
   refine CA [] (toNote_ok (l.getD i default)) ?_
   try simp only [go_sem,seval]
   repeat refine K ?_
   have hs:=fill_set l default (⟨0,0⟩:Note) i hl'
   have hs':(l.take i++List.replicate (l.length-i) (⟨0,0⟩:Note)).set i ⟨(l.getD i default).who,(l.getD i default).v⟩=l.take (i+1)++List.replicate (l.length-(i+1)) ⟨0,0⟩:=hs
   try simp only [go_sem,seval,qCq _ i (hm▸hl'),hm,hs',qA7 (i:=i) (by omega)]
   repeat refine K ?_
   refine qA6 (i+1) (Sub.shape [] id (by omega) ?_ ?_ ?_ ?_) ?_ ?_
   any_goals (first | omega | (simp [qA2]; done))
  ·simp only [decide_eq_false_iff_not] at hc
   have:i=l.length:=by omega
   subst this
   simp only [go_sem,seval]
   repeat refine K ?_
   refine fz ?_; simp [FinS,nilL,nilV,oneOr,-List.drop_one]
theorem szNoteS_ok (xs:List Note) (n:Int) (hx:xs.length<2^63) (h0:0≤n) (h1:n≤2^62):CallOk Tryz.prog num 117 [.sl .bw 2 (notes xs),.int .i64 n] [] (.int .i64 (szL xs.length n)):=by
 refine EN m117 Tryz.func52 ?_
 unfold m117
 have hw:IntKind.i64.wrap (n-xs.length)=n-xs.length:=qAg (by omega) (by omega)
 simp only [go_sem,seval,hw]
 repeat refine K ?_
 refine qA1 (fun hc=>?_) (fun hc=>?_)
 ·simp only [go_sem,seval]
  repeat refine K ?_
  refine fz ?_; simp [FinS,nilL,nilV,oneOr,-List.drop_one]
  simp only [decide_eq_true_eq] at hc
  simp [szL,hc]
 ·simp only [go_sem,seval]
  repeat refine K ?_
  refine fz ?_; simp [FinS,nilL,nilV,oneOr,-List.drop_one]
  simp only [decide_eq_false_iff_not] at hc
  simp [szL,hc]
theorem eqNote_ok (x y:Note):CallOk Tryz.prog num 118 [.agg (noteC x),.agg (noteC y)] [] (.bool (decide (x=y))):=by
 refine EN m118 Tryz.func149 ?_
 unfold m118
 cases x
 cases y
 repeat' (first
  | (simp only [go_sem,seval])
  | (refine qA1 (fun hc=>?_) (fun hc=>?_)<;>((try simp only [Bool.not_eq_true',Bool.not_eq_false',ne_eq,Bool.not_eq_true,Bool.not_eq_false] at hc)<;>(try simp only [hc])))
  | (refine qB4 (fun hc=>?_) (fun hc=>?_)<;>((try simp only [Bool.not_eq_true',Bool.not_eq_false',ne_eq,Bool.not_eq_true,Bool.not_eq_false] at hc)<;>(try simp only [hc])))
  | (refine qAy (fun hc=>?_) (fun hc=>?_)<;>((try simp only [Bool.not_eq_true',Bool.not_eq_false',ne_eq,Bool.not_eq_true,Bool.not_eq_false] at hc)<;>(try simp only [hc])))
  | (refine ⟨by first | omega | (simp; done),?_⟩)
  | fail)
 all_goals (refine fz ?_; simp [FinS,nilL,nilV,oneOr,-List.drop_one])
 all_goals (try (simp_all; done))
theorem eqNoteS_ok (xs ys:List Note) (hx:xs.length≤2^47)  : CallOk Tryz.prog num 119 [.sl .bw 2 (notes xs),.sl .bw 2 (notes ys)] [] (.bool (decide (xs=ys))):=by
 refine EN m119 Tryz.func68 ?_
 unfold m119
 simp only [go_sem,seval]
 repeat refine K ?_
 refine qA1 (fun hc=>?_) (fun hc=>?_)
 ·have hne:xs≠ys:=fun he=>by subst he; simp at hc
  simp only [go_sem,seval]
  repeat refine K ?_
  refine fz ?_; simp [FinS,nilL,nilV,oneOr,-List.drop_one]
  exact hne
 ·have hl:xs.length=ys.length:=by simp at hc; omega
  simp only [go_sem,seval]
  repeat refine K ?_
  refine qA8 (ι:=Nat) (fun i=>.mk [(0,.sl .bw 2 (notes xs)),(1,.sl .bw 2 (notes ys)),(5,.int .i64 i)] [] 10) (fun i=>i≤xs.length∧xs.take i=ys.take i) (fun i=>xs.length-i) 0 (by simp) ?_ ?_
  ·refine Sub.shape [] id (by omega) ?_ ?_ ?_ ?_<;>simp [qA2]
  ·rintro i ⟨hi,hp⟩
   simp only [go_sem,seval]
   repeat refine K ?_
   refine qA1 (fun hc=>?_) (fun hc=>?_)
   ·simp only [decide_eq_true_eq] at hc
    have hil:i<xs.length:=by omega
    have hjl:i<ys.length:=by omega
    simp only [go_sem,seval,qCq xs i hil,qCq ys i hjl]
    repeat refine K ?_
    refine DA [] (eqNote_ok (xs.getD i default) (ys.getD i default)) ?_
    try simp only [go_sem,seval]
    repeat refine K ?_
    by_cases he:xs.getD i default=ys.getD i default
    ·simp only [go_sem,seval,he,qA7 (i:=i) (by omega)]
     repeat refine K ?_
     refine qA6 (i+1) (Sub.shape [] id (by omega) ?_ ?_ ?_ ?_) ?_ ?_
     any_goals (first | omega | (simp [qA2]; done))
     refine ⟨hil,?_⟩
     rw [List.take_succ_eq_append_getElem hil,List.take_succ_eq_append_getElem hjl,hp]
     have he':xs[i]=ys[i]:=by simpa [List.getD_eq_getElem?_getD,hil,hjl] using he
     rw [he']
    ·simp only [go_sem,seval,he]
     repeat refine K ?_
     refine fz ?_; simp [FinS,nilL,nilV,oneOr,-List.drop_one]
     intro h
     subst h
     exact he rfl
   ·simp only [decide_eq_false_iff_not] at hc
    have he:xs=ys:=by
     have h1:i=xs.length:=by omega
     rw [h1,List.take_length,hl,List.take_length] at hp
     exact hp
    simp only [go_sem,seval]
    repeat refine K ?_
    refine fz ?_; simp [FinS,nilL,nilV,oneOr,-List.drop_one]
    exact he
theorem toThread_ok (x:Thread) (h1:8*x.regs.length≤2^47):CallOk Tryz.prog num 122 [.agg (threadC .bw x)] [] (.agg (threadC .own x)):=by
 refine EN m122 Tryz.func174 ?_
 unfold m122
 simp only [go_sem,seval]
 repeat refine K ?_
 refine CA [] (toIntS_ok x.regs h1) ?_
 try simp only [go_sem,seval]
 repeat refine K ?_
 refine ⟨_,Sub.refl _,qAm ?_⟩; simp [-List.drop_one]
theorem nil_threads :∀(n:Nat),nilRs (List.replicate n [.int .i64 0,AV.nil,.int .i64 0]) (threads .own (List.replicate n ⟨0,[],0⟩))
 | 0=>by simp [threads]
 | n+1=>by
  have:=nil_threads n
  simp only [List.replicate_succ,threads,List.map_cons] at this⊢
  exact (qCs _ _ _ _).2 ⟨by simp [threadC,qB7],this⟩
theorem toThreadS_ok (l:List Thread) (hl:64*l.length≤2^47) (hb1 :∀x∈l,8*x.regs.length≤2^47):CallOk Tryz.prog num 123 [.sl .bw 3 (threads .bw l)] [] (.sl .own 3 (threads .own l)):=by
 refine EN m123 Tryz.func95 ?_
 unfold m123
 simp only [go_sem,seval]
 repeat refine K ?_
 refine qA8 (ι:=Nat) (fun i=>.mk [(0,.sl .bw 3 (threads .bw l)),(3,.ns 10 0 l.length),(4,.int .i64 i)] [(10,3,threads .own (l.take i++List.replicate (l.length-i) ⟨0,[],0⟩))] 11) (fun i=>i≤l.length) (fun i=>l.length-i) 0 (by simp) ?_ ?_
 ·refine Sub.shape [] id (by omega) ?_ ?_ ?_ ?_<;>simp [qA2]
  right
  exact nil_threads _
 ·intro i hi
  simp only [go_sem,seval]
  refine qA1 (fun hc=>?_) (fun hc=>?_)
  ·simp only [decide_eq_true_eq] at hc
   have hl':i<l.length:=by omega
   have hm:=qCc l (⟨0,[],0⟩:Thread) i hi
   simp only [go_sem,seval,qA5 .bw l i hl',hm]
   repeat refine K ?_
   refine CA [] (toThread_ok (l.getD i default) (hb1 _ (qAd l i default hl'))) ?_
   try simp only [go_sem,seval]
   repeat refine K ?_
   have hs:=fill_set l default (⟨0,[],0⟩:Thread) i hl'
   try simp only [go_sem,seval,qA5 .own _ i (hm▸hl'),hm,qA7 (i:=i) (by omega)]
   repeat refine K ?_
   refine qA6 (i+1) ?_ hl' (by omega)
   refine Sub.trans (Sub.foldAt 10 1 11 rfl (by simp [-gD]<;>omega) rfl (by decide) (by decide) rfl (by simp<;>omega)) ?_
   simp only [fS,qA,qC,qA4,hs]
   refine Sub.shape [] id (by omega) ?_ ?_ ?_ ?_<;>simp [qA2]
  ·simp only [decide_eq_false_iff_not] at hc
   have:i=l.length:=by omega
   subst this
   simp only [go_sem,seval]
   repeat refine K ?_
   refine fz ?_; simp [FinS,nilL,nilV,oneOr,-List.drop_one]
theorem szThread_ok (x:Thread) (n:Int) (hx:x.regs.length<2^63) (h0:0≤n) (h1:n≤2^62):CallOk Tryz.prog num 124 [.agg (threadC .bw x),.int .i64 n] [] (.int .i64 (szL x.regs.length n)):=by
 refine EN m124 Tryz.func166 ?_
 unfold m124
 simp only [go_sem,seval]
 repeat refine K ?_
 refine CA [] (szIntS_ok x.regs n hx h0 h1) ?_
 try simp only [go_sem,seval]
 repeat refine K ?_
 refine qA1 (fun hk=>?_) (fun hk=>?_)
 ·simp only [decide_eq_true_eq] at hk
  simp only [go_sem,seval]
  repeat refine K ?_
  refine fz ?_; simp [FinS,nilL,nilV,oneOr,-List.drop_one]
  simp [szL_neg hk]
 ·simp only [decide_eq_false_iff_not] at hk
  simp only [go_sem,seval]
  repeat refine K ?_
  refine fz ?_; simp [FinS,nilL,nilV,oneOr,-List.drop_one]
def zThread (x:Thread):Nat:=x.regs.length
theorem szThreadS_ok (l:List Thread) (n:Int) (hl:l.length<2^63) (hb :∀x∈l,x.regs.length<2^63) (h0:0≤n) (h1:n≤2^61):CallOk Tryz.prog num 125 [.sl .bw 3 (threads .bw l),.int .i64 n] [] (.int .i64 (szL (l.length+tots zThread l) n)):=by
 refine EN m125 Tryz.func88 ?_
 unfold m125
 have hw:IntKind.i64.wrap (n-l.length)=n-l.length:=qAg (by omega) (by omega)
 simp only [go_sem,seval,hw]
 repeat refine K ?_
 refine qA1 (fun hc=>?_) (fun hc=>?_)
 ·simp only [decide_eq_true_eq] at hc
  simp only [go_sem,seval]
  repeat refine K ?_
  refine fz ?_; simp [FinS,nilL,nilV,oneOr,-List.drop_one]
  rw [qD2 (by push_cast; omega)]
 ·simp only [decide_eq_false_iff_not] at hc
  simp only [go_sem,seval]
  repeat refine K ?_
  refine qA8 (ι:=Nat) (fun i=>.mk [(0,.sl .bw 3 (threads .bw l)),(1,.int .i64 (n-l.length-tots zThread (l.take i))),(5,.int .i64 i)] [] 10) (fun i=>i≤l.length∧(tots zThread (l.take i):Int)≤n-l.length) (fun i=>l.length-i) 0 ⟨by simp,by simp [tots]; omega⟩ ?_ ?_
  ·refine Sub.shape [] id (by omega) ?_ ?_ ?_ ?_<;>simp [qA2]
   all_goals simp [tots]
  ·rintro i ⟨hi,hs⟩
   simp only [go_sem,seval]
   refine qA1 (fun hc2=>?_) (fun hc2=>?_)
   ·simp only [decide_eq_true_eq] at hc2
    have hl':i<l.length:=by omega
    have hbl:=hb _ (qAd l i default hl')
    have ht:=tots_take zThread l default i hl'
    have hle:=qDz zThread l (i+1)
    have hz:zThread (l.getD i default)=(l.getD i default).regs.length:=rfl
    simp only [go_sem,seval,qA5 .bw l i hl']
    repeat refine K ?_
    refine CA [] (szThread_ok (l.getD i default) (n-l.length-tots zThread (l.take i)) hbl (by omega) (by omega)) ?_
    try simp only [go_sem,seval]
    repeat refine K ?_
    refine qA1 (fun hc3=>?_) (fun hc3=>?_)
    ·simp only [decide_eq_true_eq] at hc3
     have h3:n-l.length-tots zThread (l.take i)<(l.getD i default).regs.length:=by
      apply Int.lt_of_not_ge
      intro h
      rw [szL_big (by omega)] at hc3
      omega
     simp only [go_sem,seval]
     repeat refine K ?_
     refine fz ?_; simp [FinS,nilL,nilV,oneOr,-List.drop_one]
     rw [qD2 (by push_cast; omega)]
    ·simp only [decide_eq_false_iff_not] at hc3
     have h3:=qDj hc3
     rw [h3] at hc3
     have e3:n-l.length-(tots zThread (l.take i):Int)-((l.getD i default).regs.length:Int)=n-l.length-tots zThread (l.take (i+1)):=by omega
     try simp only [go_sem,seval,h3,e3,qA7 (i:=i) (by omega)]
     repeat refine K ?_
     refine qA6 (i+1) (Sub.shape [] id (by omega) ?_ ?_ ?_ ?_) ?_ ?_
     any_goals (first | omega | (simp [qA2]; done))
   ·simp only [decide_eq_false_iff_not] at hc2
    have he:l.take i=l:=List.take_of_length_le (by omega)
    rw [he] at hs
    simp only [go_sem,seval,he]
    repeat refine K ?_
    refine fz ?_; simp [FinS,nilL,nilV,oneOr,-List.drop_one]
    rw [szL_big (by push_cast; omega)]
    try (push_cast; omega)
theorem eqThread_ok (x y:Thread) (h1:x.regs.length≤2^47):CallOk Tryz.prog num 126 [.agg (threadC .bw x),.agg (threadC .bw y)] [] (.bool (decide (x=y))):=by
 refine EN m126 Tryz.func181 ?_
 unfold m126
 simp only [go_sem,seval]
 repeat refine K ?_
 by_cases e0:x.at_=y.at_
 case neg =>
  try simp only [go_sem,seval,e0]
  repeat refine K ?_
  refine fz ?_; simp [FinS,nilL,nilV,oneOr,-List.drop_one]
  try (intro h; exact e0 (by rw [h]))
 try simp only [go_sem,seval,e0]
 repeat refine K ?_
 refine CA [] (eqIntS_ok x.regs y.regs h1) ?_
 try simp only [go_sem,seval]
 repeat refine K ?_
 by_cases e1:x.regs=y.regs
 case neg =>
  try simp only [go_sem,seval,e1]
  repeat refine K ?_
  refine fz ?_; simp [FinS,nilL,nilV,oneOr,-List.drop_one]
  try (intro h; exact e1 (by rw [h]))
 try simp only [go_sem,seval,e1]
 repeat refine K ?_
 by_cases e2:x.st=y.st
 case neg =>
  try simp only [go_sem,seval,e2]
  repeat refine K ?_
  refine fz ?_; simp [FinS,nilL,nilV,oneOr,-List.drop_one]
  try (intro h; exact e2 (by rw [h]))
 try simp only [go_sem,seval,e2]
 repeat refine K ?_
 refine fz ?_; simp [FinS,nilL,nilV,oneOr,-List.drop_one]
 cases x
 cases y
 simp_all
theorem eqThreadS_ok (xs ys:List Thread) (hx:xs.length≤2^47) (hb1 :∀x∈xs,x.regs.length≤2^47):CallOk Tryz.prog num 127 [.sl .bw 3 (threads .bw xs),.sl .bw 3 (threads .bw ys)] [] (.bool (decide (xs=ys))):=by
 refine EN m127 Tryz.func102 ?_
 unfold m127
 simp only [go_sem,seval]
 repeat refine K ?_
 refine qA1 (fun hc=>?_) (fun hc=>?_)
 ·have hne:xs≠ys:=fun he=>by subst he; simp at hc
  simp only [go_sem,seval]
  repeat refine K ?_
  refine fz ?_; simp [FinS,nilL,nilV,oneOr,-List.drop_one]
  exact hne
 ·have hl:xs.length=ys.length:=by simp at hc; omega
  simp only [go_sem,seval]
  repeat refine K ?_
  refine qA8 (ι:=Nat) (fun i=>.mk [(0,.sl .bw 3 (threads .bw xs)),(1,.sl .bw 3 (threads .bw ys)),(5,.int .i64 i)] [] 10) (fun i=>i≤xs.length∧xs.take i=ys.take i) (fun i=>xs.length-i) 0 (by simp) ?_ ?_
  ·refine Sub.shape [] id (by omega) ?_ ?_ ?_ ?_<;>simp [qA2]
  ·rintro i ⟨hi,hp⟩
   simp only [go_sem,seval]
   repeat refine K ?_
   refine qA1 (fun hc=>?_) (fun hc=>?_)
   ·simp only [decide_eq_true_eq] at hc
    have hil:i<xs.length:=by omega
    have hjl:i<ys.length:=by omega
    simp only [go_sem,seval,qA5 .bw xs i hil,qA5 .bw ys i hjl]
    repeat refine K ?_
    refine DA [] (eqThread_ok (xs.getD i default) (ys.getD i default) (hb1 _ (qAd xs i default hil))) ?_
    try simp only [go_sem,seval]
    repeat refine K ?_
    by_cases he:xs.getD i default=ys.getD i default
    ·simp only [go_sem,seval,he,qA7 (i:=i) (by omega)]
     repeat refine K ?_
     refine qA6 (i+1) (Sub.shape [] id (by omega) ?_ ?_ ?_ ?_) ?_ ?_
     any_goals (first | omega | (simp [qA2]; done))
     refine ⟨hil,?_⟩
     rw [List.take_succ_eq_append_getElem hil,List.take_succ_eq_append_getElem hjl,hp]
     have he':xs[i]=ys[i]:=by simpa [List.getD_eq_getElem?_getD,hil,hjl] using he
     rw [he']
    ·simp only [go_sem,seval,he]
     repeat refine K ?_
     refine fz ?_; simp [FinS,nilL,nilV,oneOr,-List.drop_one]
     intro h
     subst h
     exact he rfl
   ·simp only [decide_eq_false_iff_not] at hc
    have he:xs=ys:=by
     have h1:i=xs.length:=by omega
     rw [h1,List.take_length,hl,List.take_length] at hp
     exact hp
    simp only [go_sem,seval]
    repeat refine K ?_
    refine fz ?_; simp [FinS,nilL,nilV,oneOr,-List.drop_one]
    exact he
def wThread (x:Thread):Nat:=2+x.regs.length
theorem toChan_ok (x:Chan) (h1:8*x.list.length≤2^47):CallOk Tryz.prog num 130 [.agg (chanC .bw x)] [] (.agg (chanC .own x)):=by
 refine EN m130 Tryz.func175 ?_
 unfold m130
 simp only [go_sem,seval]
 repeat refine K ?_
 refine CA [] (toIntS_ok x.list h1) ?_
 try simp only [go_sem,seval]
 repeat refine K ?_
 refine ⟨_,Sub.refl _,qAm ?_⟩; simp [-List.drop_one]
theorem nil_chans :∀(n:Nat),nilRs (List.replicate n [.int .i64 0,AV.nil,.bool false]) (chans .own (List.replicate n ⟨0,[],false⟩))
 | 0=>by simp [chans]
 | n+1=>by
  have:=nil_chans n
  simp only [List.replicate_succ,chans,List.map_cons] at this⊢
  exact (qCs _ _ _ _).2 ⟨by simp [chanC,qB7],this⟩
theorem toChanS_ok (l:List Chan) (hl:64*l.length≤2^47) (hb1 :∀x∈l,8*x.list.length≤2^47):CallOk Tryz.prog num 131 [.sl .bw 3 (chans .bw l)] [] (.sl .own 3 (chans .own l)):=by
 refine EN m131 Tryz.func96 ?_
 unfold m131
 simp only [go_sem,seval]
 repeat refine K ?_
 refine qA8 (ι:=Nat) (fun i=>.mk [(0,.sl .bw 3 (chans .bw l)),(3,.ns 10 0 l.length),(4,.int .i64 i)] [(10,3,chans .own (l.take i++List.replicate (l.length-i) ⟨0,[],false⟩))] 11) (fun i=>i≤l.length) (fun i=>l.length-i) 0 (by simp) ?_ ?_
 ·refine Sub.shape [] id (by omega) ?_ ?_ ?_ ?_<;>simp [qA2]
  right
  exact nil_chans _
 ·intro i hi
  simp only [go_sem,seval]
  refine qA1 (fun hc=>?_) (fun hc=>?_)
  ·simp only [decide_eq_true_eq] at hc
   have hl':i<l.length:=by omega
   have hm:=qCc l (⟨0,[],false⟩:Chan) i hi
   simp only [go_sem,seval,qB1 .bw l i hl',hm]
   repeat refine K ?_
   refine CA [] (toChan_ok (l.getD i default) (hb1 _ (qAd l i default hl'))) ?_
   try simp only [go_sem,seval]
   repeat refine K ?_
   have hs:=fill_set l default (⟨0,[],false⟩:Chan) i hl'
   try simp only [go_sem,seval,qB1 .own _ i (hm▸hl'),hm,qA7 (i:=i) (by omega)]
   repeat refine K ?_
   refine qA6 (i+1) ?_ hl' (by omega)
   refine Sub.trans (Sub.foldAt 10 1 11 rfl (by simp [-gD]<;>omega) rfl (by decide) (by decide) rfl (by simp<;>omega)) ?_
   simp only [fS,qA,qC,qAs,hs]
   refine Sub.shape [] id (by omega) ?_ ?_ ?_ ?_<;>simp [qA2]
  ·simp only [decide_eq_false_iff_not] at hc
   have:i=l.length:=by omega
   subst this
   simp only [go_sem,seval]
   repeat refine K ?_
   refine fz ?_; simp [FinS,nilL,nilV,oneOr,-List.drop_one]
theorem szChan_ok (x:Chan) (n:Int) (hx:x.list.length<2^63) (h0:0≤n) (h1:n≤2^62):CallOk Tryz.prog num 132 [.agg (chanC .bw x),.int .i64 n] [] (.int .i64 (szL x.list.length n)):=by
 refine EN m132 Tryz.func167 ?_
 unfold m132
 simp only [go_sem,seval]
 repeat refine K ?_
 refine CA [] (szIntS_ok x.list n hx h0 h1) ?_
 try simp only [go_sem,seval]
 repeat refine K ?_
 refine qA1 (fun hk=>?_) (fun hk=>?_)
 ·simp only [decide_eq_true_eq] at hk
  simp only [go_sem,seval]
  repeat refine K ?_
  refine fz ?_; simp [FinS,nilL,nilV,oneOr,-List.drop_one]
  simp [szL_neg hk]
 ·simp only [decide_eq_false_iff_not] at hk
  simp only [go_sem,seval]
  repeat refine K ?_
  refine fz ?_; simp [FinS,nilL,nilV,oneOr,-List.drop_one]
def zChan (x:Chan):Nat:=x.list.length
theorem szChanS_ok (l:List Chan) (n:Int) (hl:l.length<2^63) (hb :∀x∈l,x.list.length<2^63) (h0:0≤n) (h1:n≤2^61):CallOk Tryz.prog num 133 [.sl .bw 3 (chans .bw l),.int .i64 n] [] (.int .i64 (szL (l.length+tots zChan l) n)):=by
 refine EN m133 Tryz.func89 ?_
 unfold m133
 have hw:IntKind.i64.wrap (n-l.length)=n-l.length:=qAg (by omega) (by omega)
 simp only [go_sem,seval,hw]
 repeat refine K ?_
 refine qA1 (fun hc=>?_) (fun hc=>?_)
 ·simp only [decide_eq_true_eq] at hc
  simp only [go_sem,seval]
  repeat refine K ?_
  refine fz ?_; simp [FinS,nilL,nilV,oneOr,-List.drop_one]
  rw [qD2 (by push_cast; omega)]
 ·simp only [decide_eq_false_iff_not] at hc
  simp only [go_sem,seval]
  repeat refine K ?_
  refine qA8 (ι:=Nat) (fun i=>.mk [(0,.sl .bw 3 (chans .bw l)),(1,.int .i64 (n-l.length-tots zChan (l.take i))),(5,.int .i64 i)] [] 10) (fun i=>i≤l.length∧(tots zChan (l.take i):Int)≤n-l.length) (fun i=>l.length-i) 0 ⟨by simp,by simp [tots]; omega⟩ ?_ ?_
  ·refine Sub.shape [] id (by omega) ?_ ?_ ?_ ?_<;>simp [qA2]
   all_goals simp [tots]
  ·rintro i ⟨hi,hs⟩
   simp only [go_sem,seval]
   refine qA1 (fun hc2=>?_) (fun hc2=>?_)
   ·simp only [decide_eq_true_eq] at hc2
    have hl':i<l.length:=by omega
    have hbl:=hb _ (qAd l i default hl')
    have ht:=tots_take zChan l default i hl'
    have hle:=qDz zChan l (i+1)
    have hz:zChan (l.getD i default)=(l.getD i default).list.length:=rfl
    simp only [go_sem,seval,qB1 .bw l i hl']
    repeat refine K ?_
    refine CA [] (szChan_ok (l.getD i default) (n-l.length-tots zChan (l.take i)) hbl (by omega) (by omega)) ?_
    try simp only [go_sem,seval]
    repeat refine K ?_
    refine qA1 (fun hc3=>?_) (fun hc3=>?_)
    ·simp only [decide_eq_true_eq] at hc3
     have h3:n-l.length-tots zChan (l.take i)<(l.getD i default).list.length:=by
      apply Int.lt_of_not_ge
      intro h
      rw [szL_big (by omega)] at hc3
      omega
     simp only [go_sem,seval]
     repeat refine K ?_
     refine fz ?_; simp [FinS,nilL,nilV,oneOr,-List.drop_one]
     rw [qD2 (by push_cast; omega)]
    ·simp only [decide_eq_false_iff_not] at hc3
     have h3:=qDj hc3
     rw [h3] at hc3
     have e3:n-l.length-(tots zChan (l.take i):Int)-((l.getD i default).list.length:Int)=n-l.length-tots zChan (l.take (i+1)):=by omega
     try simp only [go_sem,seval,h3,e3,qA7 (i:=i) (by omega)]
     repeat refine K ?_
     refine qA6 (i+1) (Sub.shape [] id (by omega) ?_ ?_ ?_ ?_) ?_ ?_
     any_goals (first | omega | (simp [qA2]; done))
   ·simp only [decide_eq_false_iff_not] at hc2
    have he:l.take i=l:=List.take_of_length_le (by omega)
    rw [he] at hs
    simp only [go_sem,seval,he]
    repeat refine K ?_
    refine fz ?_; simp [FinS,nilL,nilV,oneOr,-List.drop_one]
    rw [szL_big (by push_cast; omega)]
    try (push_cast; omega)
theorem eqChan_ok (x y:Chan) (h1:x.list.length≤2^47):CallOk Tryz.prog num 134 [.agg (chanC .bw x),.agg (chanC .bw y)] [] (.bool (decide (x=y))):=by
 refine EN m134 Tryz.func182 ?_
 unfold m134
 simp only [go_sem,seval]
 repeat refine K ?_
 by_cases e0:x.cap=y.cap
 case neg =>
  try simp only [go_sem,seval,e0]
  repeat refine K ?_
  refine fz ?_; simp [FinS,nilL,nilV,oneOr,-List.drop_one]
  try (intro h; exact e0 (by rw [h]))
 try simp only [go_sem,seval,e0]
 repeat refine K ?_
 refine CA [] (eqIntS_ok x.list y.list h1) ?_
 try simp only [go_sem,seval]
 repeat refine K ?_
 by_cases e1:x.list=y.list
 case neg =>
  try simp only [go_sem,seval,e1]
  repeat refine K ?_
  refine fz ?_; simp [FinS,nilL,nilV,oneOr,-List.drop_one]
  try (intro h; exact e1 (by rw [h]))
 try simp only [go_sem,seval,e1]
 repeat refine K ?_
 have eb:(x.closed==y.closed)=decide (x.closed=y.closed):=by cases x.closed<;>cases y.closed<;>rfl
 by_cases e2:x.closed=y.closed
 case neg =>
  try simp only [go_sem,seval,eb,e2]
  repeat refine K ?_
  refine fz ?_; simp [FinS,nilL,nilV,oneOr,-List.drop_one]
  try (intro h; exact e2 (by rw [h]))
 try simp only [go_sem,seval,eb,e2]
 repeat refine K ?_
 refine fz ?_; simp [FinS,nilL,nilV,oneOr,-List.drop_one]
 cases x
 cases y
 simp_all
theorem eqChanS_ok (xs ys:List Chan) (hx:xs.length≤2^47) (hb1 :∀x∈xs,x.list.length≤2^47):CallOk Tryz.prog num 135 [.sl .bw 3 (chans .bw xs),.sl .bw 3 (chans .bw ys)] [] (.bool (decide (xs=ys))):=by
 refine EN m135 Tryz.func103 ?_
 unfold m135
 simp only [go_sem,seval]
 repeat refine K ?_
 refine qA1 (fun hc=>?_) (fun hc=>?_)
 ·have hne:xs≠ys:=fun he=>by subst he; simp at hc
  simp only [go_sem,seval]
  repeat refine K ?_
  refine fz ?_; simp [FinS,nilL,nilV,oneOr,-List.drop_one]
  exact hne
 ·have hl:xs.length=ys.length:=by simp at hc; omega
  simp only [go_sem,seval]
  repeat refine K ?_
  refine qA8 (ι:=Nat) (fun i=>.mk [(0,.sl .bw 3 (chans .bw xs)),(1,.sl .bw 3 (chans .bw ys)),(5,.int .i64 i)] [] 10) (fun i=>i≤xs.length∧xs.take i=ys.take i) (fun i=>xs.length-i) 0 (by simp) ?_ ?_
  ·refine Sub.shape [] id (by omega) ?_ ?_ ?_ ?_<;>simp [qA2]
  ·rintro i ⟨hi,hp⟩
   simp only [go_sem,seval]
   repeat refine K ?_
   refine qA1 (fun hc=>?_) (fun hc=>?_)
   ·simp only [decide_eq_true_eq] at hc
    have hil:i<xs.length:=by omega
    have hjl:i<ys.length:=by omega
    simp only [go_sem,seval,qB1 .bw xs i hil,qB1 .bw ys i hjl]
    repeat refine K ?_
    refine DA [] (eqChan_ok (xs.getD i default) (ys.getD i default) (hb1 _ (qAd xs i default hil))) ?_
    try simp only [go_sem,seval]
    repeat refine K ?_
    by_cases he:xs.getD i default=ys.getD i default
    ·simp only [go_sem,seval,he,qA7 (i:=i) (by omega)]
     repeat refine K ?_
     refine qA6 (i+1) (Sub.shape [] id (by omega) ?_ ?_ ?_ ?_) ?_ ?_
     any_goals (first | omega | (simp [qA2]; done))
     refine ⟨hil,?_⟩
     rw [List.take_succ_eq_append_getElem hil,List.take_succ_eq_append_getElem hjl,hp]
     have he':xs[i]=ys[i]:=by simpa [List.getD_eq_getElem?_getD,hil,hjl] using he
     rw [he']
    ·simp only [go_sem,seval,he]
     repeat refine K ?_
     refine fz ?_; simp [FinS,nilL,nilV,oneOr,-List.drop_one]
     intro h
     subst h
     exact he rfl
   ·simp only [decide_eq_false_iff_not] at hc
    have he:xs=ys:=by
     have h1:i=xs.length:=by omega
     rw [h1,List.take_length,hl,List.take_length] at hp
     exact hp
    simp only [go_sem,seval]
    repeat refine K ?_
    refine fz ?_; simp [FinS,nilL,nilV,oneOr,-List.drop_one]
    exact he
def wChan (x:Chan):Nat:=2+x.list.length
def zSource (s:Source):Nat:=(s.ths.length+tots zThread s.ths)+((s.chs.length+tots zChan s.chs)+s.tr.length)
theorem szSource_ok (s:Source) (n:Int) (h1:s.ths.length<2^63) (h2:s.chs.length<2^63) (h3:s.tr.length<2^63) (h4 :∀t∈s.ths,t.regs.length<2^63) (h5 :∀c∈s.chs,c.list.length<2^63) (h0:0≤n) (hn:n≤2^61):CallOk Tryz.prog num 139 [.agg (sourceC .bw s),.int .i64 n] [] (.int .i64 (szL (zSource s) n)):=by
 refine EN m139 Tryz.func32 ?_
 unfold m139 zSource
 rw [←szL_add _ _ _ h0]
 simp only [go_sem,seval]
 repeat refine K ?_
 refine CA [] (szThreadS_ok s.ths n h1 h4 h0 hn) ?_
 try simp only [go_sem,seval]
 repeat refine K ?_
 refine qA1 (fun hk=>?_) (fun hk=>?_)
 ·simp only [decide_eq_true_eq] at hk
  rw [if_pos hk]
  simp only [go_sem,seval]
  repeat refine K ?_
  refine fz ?_; simp [FinS,nilL,nilV,oneOr,-List.drop_one]
 ·simp only [decide_eq_false_iff_not] at hk
  have e1:=qDj hk
  rw [if_neg hk,←szL_add _ _ _ (by omega)]
  simp only [go_sem,seval]
  repeat refine K ?_
  refine CA [] (szChanS_ok s.chs (szL (s.ths.length+tots zThread s.ths) n) h2 h5 (by omega) (by omega)) ?_
  try simp only [go_sem,seval]
  repeat refine K ?_
  refine qA1 (fun hk2=>?_) (fun hk2=>?_)
  ·simp only [decide_eq_true_eq] at hk2
   rw [if_pos hk2]
   simp only [go_sem,seval]
   repeat refine K ?_
   refine fz ?_; simp [FinS,nilL,nilV,oneOr,-List.drop_one]
  ·simp only [decide_eq_false_iff_not] at hk2
   have e2:=qDj hk2
   rw [if_neg hk2]
   simp only [go_sem,seval]
   repeat refine K ?_
   refine CA [] (szNoteS_ok s.tr (szL (s.chs.length+tots zChan s.chs) (szL (s.ths.length+tots zThread s.ths) n)) h3 (by omega) (by omega)) ?_
   try simp only [go_sem,seval]
   repeat refine K ?_
   refine qA1 (fun hk3=>?_) (fun hk3=>?_)
   ·simp only [decide_eq_true_eq] at hk3
    simp only [go_sem,seval]
    repeat refine K ?_
    refine fz ?_; simp [FinS,nilL,nilV,oneOr,-List.drop_one]
    rw [szL_neg hk3]
   ·simp only [go_sem,seval]
    repeat refine K ?_
    refine fz ?_; simp [FinS,nilL,nilV,oneOr,-List.drop_one]
theorem toSource_ok (s:Source) (h1:64*s.ths.length≤2^47) (h2:64*s.chs.length≤2^47) (h3:64*s.tr.length≤2^47) (h4 :∀t∈s.ths,8*t.regs.length≤2^47) (h5 :∀c∈s.chs,8*c.list.length≤2^47):CallOk Tryz.prog num 138 [.agg (sourceC .bw s)] [] (.agg (sourceC .own s)):=by
 refine EN m138 Tryz.func34 ?_
 unfold m138
 simp only [go_sem,seval]
 repeat refine K ?_
 refine CA [] (toThreadS_ok s.ths h1 h4) ?_
 try simp only [go_sem,seval]
 repeat refine K ?_
 refine CA [] (toChanS_ok s.chs h2 h5) ?_
 try simp only [go_sem,seval]
 repeat refine K ?_
 refine CA [] (toNoteS_ok s.tr h3) ?_
 try simp only [go_sem,seval]
 repeat refine K ?_
 refine ⟨_,Sub.refl _,qAm ?_⟩; simp [-List.drop_one]
theorem eqSource_ok (s u:Source) (h1:s.ths.length≤2^47) (h2:s.chs.length≤2^47) (h3:s.tr.length≤2^47) (h4 :∀t∈s.ths,t.regs.length≤2^47) (h5 :∀c∈s.chs,c.list.length≤2^47):CallOk Tryz.prog num 140 [.agg (sourceC .bw s),.agg (sourceC .bw u)] [] (.bool (decide (s=u))):=by
 refine EN m140 Tryz.func36 ?_
 unfold m140
 simp only [go_sem,seval]
 repeat refine K ?_
 refine CA [] (eqThreadS_ok s.ths u.ths h1 h4) ?_
 try simp only [go_sem,seval]
 repeat refine K ?_
 by_cases e1:s.ths=u.ths
 case neg =>
  try simp only [go_sem,seval,e1]
  repeat refine K ?_
  refine fz ?_; simp [FinS,nilL,nilV,oneOr,-List.drop_one]
  intro h
  exact e1 (by rw [h])
 try simp only [go_sem,seval,e1]
 repeat refine K ?_
 refine CA [] (eqChanS_ok s.chs u.chs h2 h5) ?_
 try simp only [go_sem,seval]
 repeat refine K ?_
 by_cases e2:s.chs=u.chs
 case neg =>
  try simp only [go_sem,seval,e2]
  repeat refine K ?_
  refine fz ?_; simp [FinS,nilL,nilV,oneOr,-List.drop_one]
  intro h
  exact e2 (by rw [h])
 try simp only [go_sem,seval,e2]
 repeat refine K ?_
 refine CA [] (eqNoteS_ok s.tr u.tr h3) ?_
 try simp only [go_sem,seval]
 repeat refine K ?_
 by_cases e3:s.tr=u.tr
 case neg =>
  try simp only [go_sem,seval,e3]
  repeat refine K ?_
  refine fz ?_; simp [FinS,nilL,nilV,oneOr,-List.drop_one]
  intro h
  exact e3 (by rw [h])
 try simp only [go_sem,seval,e3]
 repeat refine K ?_
 refine fz ?_; simp [FinS,nilL,nilV,oneOr,-List.drop_one]
 cases s
 cases u
 simp_all
def wSource (s:Source):Nat:=tots wThread s.ths+tots wChan s.chs+tots wNote s.tr
theorem tots_z {α:Type} (z w:α→Nat) (h :∀x,w x=2+z x) :∀(l:List α),tots w l=2*l.length+tots z l
 | []=>rfl
 | a::l=>by simp only [tots,tots_z z w h l,h,List.length_cons]; omega
theorem wSource_z (s:Source):wSource s≤2*zSource s:=by
 unfold wSource zSource
 rw [tots_z zThread wThread (fun _=>rfl),tots_z zChan wChan (fun _=>rfl)]
 have:tots wNote s.tr=2*s.tr.length:=tots_const 2 s.tr
 omega
structure SrcSz (s:Source) (n:Nat):Prop where
 ths:s.ths.length≤n
 chs:s.chs.length≤n
 tr:s.tr.length≤n
 regs :∀t∈s.ths,t.regs.length≤n
 list :∀c∈s.chs,c.list.length≤n
 w:wSource s≤2*n
theorem srcSz_of {s:Source} {n:Nat} (h:zSource s≤n):SrcSz s n:=by
 have hw:=wSource_z s
 unfold zSource at h hw
 exact ⟨by omega,by omega,by omega,fun t ht=>by have:=tots_mem (w:=zThread) ht; unfold zThread at *; omega,fun c hc=>by have:=tots_mem (w:=zChan) hc; unfold zChan at *; omega,by omega⟩
theorem SrcSz.small {s:Source} {n:Nat} (h:SrcSz s n) (hn:n<2^40):Small s :=
 ⟨by have:=h.ths; omega,by have:=h.chs; omega,by have:=h.tr; omega,fun t ht=>by have:=h.regs t ht; omega,fun c hc=>by have:=h.list c hc; omega⟩
theorem PrgSz.small {p:Prog} {n:Nat} (h:PrgSz p n) (hn:n<2^40):SmallP p:=⟨by have:=h.caps; omega,by have:=h.bods; omega,fun b hb=>by have:=h.body b hb; omega⟩
theorem steps_rep (n:Nat) (op_:Int) (r_:Int) (a_:Int) (b_:Int) (n_:Int):List.replicate n [.int .i64 op_,.int .i64 r_,.int .i64 a_,.int .i64 b_,.int .i64 n_]=steps (List.replicate n ⟨op_,r_,a_,b_,n_⟩):=by simp [steps,stepC]
end Go.Sep
