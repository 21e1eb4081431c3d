/- Contracts of functions. -/
import Derived.Test.YtjbknbgdfhihcaaGreatJxx15
namespace Go.Sep
set_option maxHeartbeats 16000000
open Go.Proofs
set_option linter.unusedSimpArgs false
set_option linter.unusedVariables false
set_option maxRecDepth 100000
def m72:MFn:=⟨14,[.t 2],kr [xb 1 0,xF 2] (kR [xa 3 0 1,xl 4 3,xc3 5 59 (.t 4) (xi 1) (xi 4),xv 6 5,ya 7 1 1 6,yl 8 1 7 6,ye 9 8 6,ya 10 0 1 6,yl 11 1 10 6,xg 12 (.bin .leq (.t 9) (.t 11)) 6 true,xP 13 6 12,xv 2 13])⟩
def m83:MFn:=⟨14,[.t 2],kr [xb 1 0,xF 2] (kR [xa 3 0 1,xl 4 3,xc3 5 64 (.t 4) (xi 1) (xi 4),xv 6 5,ya 7 1 1 6,yl 8 1 7 6,ye 9 8 6,ya 10 0 1 6,yl 11 1 10 6,xg 12 (.bin .leq (.t 9) (.t 11)) 6 true,xP 13 6 12,xv 2 13])⟩
attribute [local go_sem] paramT preH e_seq e_reg e_block e_loop e_ops e_skip e_ret e_cond e_guard e_call e_ops1 plan next_ok next_some Arg.ev lookT putD putT if_false if_true app1 put del qBf binA Option.map_some Option.bind_some look Int.toNat_natCast e_blk e_stop e_exit exitIt true_and and_true maybe_do maybe_tf maybe_ft branch_true qE4 Bool.false_eq_true bnd? cellsOf openL List.isEmpty_nil List.isEmpty_cons fresh List.map_nil List.map_cons List.cons_append List.nil_append splice List.take_zero List.drop_zero List.take_succ_cons List.getD_cons_zero List.length_cons List.length_nil List.drop_succ_cons List.drop_nil List.append_nil List.all_cons List.all_nil cellOk Bool.and_self Nat.zero_add e_dreg e_done e_take e_only1 e_onlyc e_takeg e_onlyg e_both e_tri dnext_some dnext_ok dmaybe_do rdTake pdTake addP rdOnly pdOnly isRead alive needs undep apart List.filter_nil List.filter_cons Option.isSome_some Option.isSome_none List.contains_nil List.contains_cons List.forall_mem_cons List.mem_cons List.not_mem_nil false_implies implies_true forall_const forall_eq_or_imp forall_eq or_false beq_self_eq_true Bool.or_false Bool.false_or Bool.true_or Bool.or_true Bool.not_true Bool.not_false xv xo xg xr xi xz List.set_set maybe_skip dmaybe_skip dmaybe_tf dmaybe_ft fillR fillROk fillA fillOk srcA eqC bytesOf ints_append List.replicate_zero decide_true decide_false ints_set nil_bind List.replicate_succ Int.toNat_zero Int.toNat_one eq_self Bool.and_true Bool.true_and Bool.and_false Bool.false_and List.set_cons_zero List.set_cons_succ List.getD_cons_succ rnm ixm renV renL openV openVs cond_true cond_false qD5 qD4 qDu
attribute [local simp] hand bwT bwC bwL qC1 qD4 lookT Arg.ev handOk bwOk bwOks bwTs nf_sl nf_int nf_bool qAo okV okL nb nbs nbr qBy look qBf bnd bnds bndr renV renL ixm rnm apart needs rdOnly pdOnly fresh openV openVs resAV allP giveL giveV postH del isOwn partR qD5 qDu shp okB okBs ints_free
theorem qB1 (m:Mode) (l:List Chan) (i:Nat) (h:i<l.length):(chans m l).getD i []=[.int .i64 (l.getD i default).cap,.sl m 1 (ints (l.getD i default).list),.bool (l.getD i default).closed]:=by simp [chans,chanC,List.getD_eq_getElem?_getD,h]
theorem qA5 (m:Mode) (l:List Thread) (i:Nat) (h:i<l.length):(threads m l).getD i []=[.int .i64 (l.getD i default).at_,.sl m 1 (ints (l.getD i default).regs),.int .i64 (l.getD i default).st]:=by simp [threads,threadC,List.getD_eq_getElem?_getD,h]
def chanOk (c:Chan):Bool:=within c.cap 1 4&&decide ((c.list.length:Int)≤c.cap)
theorem implChanOk_ok (c:Chan):CallOk Tryz.prog num 72 [.agg (chanC .bw c)] [] (.bool (chanOk c)):=by
 refine EN m72 Tryz.func178 ?_
 unfold m72
 simp only [go_sem,seval]
 repeat refine K ?_
 refine CA [] (qAk c.cap 1 4) ?_
 try simp only [go_sem,seval]
 repeat refine K ?_
 cases h:within c.cap 1 4
 ·simp only [go_sem,seval,h]
  repeat refine K ?_
  refine fz ?_; simp [FinS,nilL,nilV,oneOr,-List.drop_one]
  simp [chanOk,h]
 ·simp only [go_sem,seval,h]
  repeat refine K ?_
  refine fz ?_; simp [FinS,nilL,nilV,oneOr,-List.drop_one]
  simp [chanOk,h]
theorem specChanOk_ok (c:Chan):CallOk Tryz.prog num 83 [.agg (chanC .bw c)] [] (.bool (chanOk c)):=by
 refine EN m83 Tryz.func169 ?_
 unfold m83
 simp only [go_sem,seval]
 repeat refine K ?_
 refine CA [] (qAq c.cap 1 4) ?_
 try simp only [go_sem,seval]
 repeat refine K ?_
 cases h:within c.cap 1 4
 ·simp only [go_sem,seval,h]
  repeat refine K ?_
  refine fz ?_; simp [FinS,nilL,nilV,oneOr,-List.drop_one]
  simp [chanOk,h]
 ·simp only [go_sem,seval,h]
  repeat refine K ?_
  refine fz ?_; simp [FinS,nilL,nilV,oneOr,-List.drop_one]
  simp [chanOk,h]
def m50:MFn:=⟨93,[.t 4],kr [xb 2 0,xb 3 1,xF 4] (.seq (kr [xm 9 2 2,xc1 10 48 (.t 9),xN 11 10,xv 12 11,za 13 0 3 12,zl 14 1 13 12,ze 15 14 12,za 16 1 2 12,zl 17 1 16 12,ze 18 17 12,xg 19 (.bin .neq (.t 15) (.t 18)) 12 false,xQ 20 12 19,xv 21 20,za 22 1 3 21,zl 23 1 22 21,ze 24 23 21,za 25 0 2 21,zl 26 1 25 21,ze 27 26 21,xg 28 (.bin .neq (.t 24) (.t 27)) 21 false,xQ 29 21 28,xv 30 29,za 31 2 3 30,zl 32 1 31 30,za 33 0 3 30,zl 34 1 33 30,ze 35 34 30,xg 36 (.call 71 [false,false] [.t 32,.t 35]) 30 false,zN 37 36 30,xQ 38 30 37] (kF 38 [xF 4])) (.seq (kr [xa 39 0 3,xl 40 39,xe 41 40,xI 42 0] (.blk 0 (.loop (kr [bT 43 .lss 42 41] (.seq (kX 43 0) (.seq (.blk 1 (kr [xv 44 42,xD 45 3 40 42,xm 46 3 45,xo 6 (.alloc [.int .i64 0,.nil,.int .i64 0]),xv 5 44,xS 3 6 46] (.seq (.dreg (.only 0 [] (xa 47 1 6) (.only 1 [] (xl 48 47) (.only 2 [] (xe 49 48) (.only 3 [] (bI 50 .neq 49 4) (.only 4 [] (xv 51 50) (.only 5 [] (za 52 2 6 51) (.only 6 [] (zl 53 1 52 51) (.only 7 [] (xg 54 (.call 59 [false,false,false] [.t 53,xi 0,xi 2]) 51 false) (.only 8 [] (zN 55 54 51) (.only 9 [] (xQ 56 51 55) (.only 10 [] (xv 57 56) (.take 11 (za 58 0 6 57) (.take 12 (zl 59 1 58 57) (.take 13 (za 60 1 2 57) (.take 14 (zl 61 1 60 57) (.only 15 [] (zv 62 5 57) (.only 16 [14,13] (xg 63 (.iad 1 (.t 61) (.t 62)) 57 false) (.only 17 [16,14,13] (zl 64 1 63 57) (.only 18 [17,16,14,13] (ze 65 64 57) (.only 19 [18,17,16,14,13] (zI 66 .sub 65 1 57) (.only 20 [12,19,11,18,17,16,14,13] (xg 67 (.call 59 [false,false,false] [.t 59,xi 0,.t 66]) 57 false) (.only 21 [20,12,19,11,18,17,16,14,13] (zN 68 67 57) (.only 22 [21,20,12,19,11,18,17,16,14,13] (xQ 69 57 68) (.done))))))))))))))))))))))))) (kF 69 [xF 4])))) (xr [bI 70 .add 42 1,xv 42 70]))))))) (.seq (kr [xa 71 1 3,xl 72 71,xe 73 72,xI 74 0] (.blk 2 (.loop (kr [bT 75 .lss 74 73] (.seq (kX 75 2) (.seq (.blk 3 (kr [xv 76 74,xD 77 3 72 74,xm 78 3 77,xo 8 (.alloc [.int .i64 0,.nil,.bool false]),xv 7 76,xS 3 8 78] (.seq (.dreg (.only 0 [] (xm 79 3 8) (.only 1 [] (xc1 80 72 (.t 79)) (.only 2 [] (xN 81 80) (.only 3 [] (xv 82 81) (.take 4 (za 83 0 8 82) (.take 5 (zl 84 1 83 82) (.take 6 (za 85 0 2 82) (.take 7 (zl 86 1 85 82) (.only 8 [] (zv 87 7 82) (.only 9 [7,6] (xg 88 (.iad 1 (.t 86) (.t 87)) 82 false) (.only 10 [9,7,6] (zl 89 1 88 82) (.only 11 [5,10,4,9,7,6] (xg 90 (.bin .neq (.t 84) (.t 89)) 82 false) (.only 12 [11,5,10,4,9,7,6] (xQ 91 82 90) (.done))))))))))))))) (kF 91 [xF 4])))) (xr [bI 92 .add 74 1,xv 74 92]))))))) (kR [xT 4]))))⟩
def m63:MFn:=⟨118,[.t 4],kr [xb 2 0,xb 3 1,xF 4] (.seq (kr [xm 9 2 2,xc1 10 62 (.t 9),xN 11 10,xv 12 11,za 13 0 3 12,zl 14 1 13 12,ze 15 14 12,za 16 1 2 12,zl 17 1 16 12,ze 18 17 12,xg 19 (.bin .neq (.t 15) (.t 18)) 12 false,xQ 20 12 19,xv 21 20,za 22 1 3 21,zl 23 1 22 21,ze 24 23 21,za 25 0 2 21,zl 26 1 25 21,ze 27 26 21,xg 28 (.bin .neq (.t 24) (.t 27)) 21 false,xQ 29 21 28,xv 30 29,za 31 2 3 30,zl 32 1 31 30,ze 33 32 30,zI 34 .gtr 33 4000 30,xQ 35 30 34] (kF 35 [xF 4])) (.seq (kr [xI 5 0] (.blk 0 (.loop (.seq (kr [xv 36 5,xa 37 0 3,xl 38 37,xe 39 38,bT 40 .lss 36 39] (kX 40 0)) (.seq (.blk 1 (kr [xa 43 0 3,xl 44 43,xv 45 5,xD 46 3 44 45,xm 47 3 46,xo 6 (.alloc [.int .i64 0,.nil,.int .i64 0]),xS 3 6 47] (.seq (.dreg (.only 0 [] (xa 48 1 6) (.only 1 [] (xl 49 48) (.only 2 [] (xe 50 49) (.only 3 [] (bI 51 .neq 50 4) (.only 4 [] (xv 52 51) (.only 5 [] (za 53 2 6 52) (.only 6 [] (zl 54 1 53 52) (.only 7 [] (xg 55 (.call 64 [false,false,false] [.t 54,xi 0,xi 2]) 52 false) (.only 8 [] (zN 56 55 52) (.only 9 [] (xQ 57 52 56) (.only 10 [] (xv 58 57) (.take 11 (za 59 0 6 58) (.take 12 (zl 60 1 59 58) (.take 13 (za 61 1 2 58) (.take 14 (zl 62 1 61 58) (.only 15 [] (zv 63 5 58) (.only 16 [14,13] (xg 64 (.iad 1 (.t 62) (.t 63)) 58 false) (.only 17 [16,14,13] (zl 65 1 64 58) (.only 18 [17,16,14,13] (ze 66 65 58) (.only 19 [18,17,16,14,13] (zI 67 .sub 66 1 58) (.only 20 [12,19,11,18,17,16,14,13] (xg 68 (.call 64 [false,false,false] [.t 60,xi 0,.t 67]) 58 false) (.only 21 [20,12,19,11,18,17,16,14,13] (zN 69 68 58) (.only 22 [21,20,12,19,11,18,17,16,14,13] (xQ 70 58 69) (.done))))))))))))))))))))))))) (kF 70 [xF 4])))) (xr [xv 41 5,bI 42 .add 41 1,xv 5 42])))))) (.seq (kr [xI 7 0] (.blk 2 (.loop (.seq (kr [xv 71 7,xa 72 1 3,xl 73 72,xe 74 73,bT 75 .lss 71 74] (kX 75 2)) (.seq (.blk 3 (.seq (.dreg (.take 0 (xa 78 1 3) (.take 1 (xl 79 78) (.only 2 [] (xv 80 7) (.only 3 [1,0] (xD 81 3 79 80) (.only 4 [3,1,0] (xm 82 3 81) (.only 5 [4,3,1,0] (xc1 83 83 (.t 82)) (.only 6 [5,4,3,1,0] (xN 84 83) (.only 7 [5,4,3,1,0] (xv 85 84) (.take 8 (za 86 1 3 85) (.take 9 (zl 87 1 86 85) (.take 10 (zv 88 7 85) (.take 11 (xg 89 (.iad 3 (.t 87) (.t 88)) 85 false) (.take 12 (za 90 0 89 85) (.take 13 (zl 91 1 90 85) (.take 14 (za 92 0 2 85) (.take 15 (zl 93 1 92 85) (.only 16 [7,5,4,3,1,0] (zv 94 7 85) (.only 17 [7,15,5,14,4,3,1,0] (xg 95 (.iad 1 (.t 93) (.t 94)) 85 false) (.only 18 [7,17,5,15,4,14,3,1,0] (zl 96 1 95 85) (.only 19 [7,13,18,5,12,17,4,11,15,3,9,10,14,1,8,0] (xg 97 (.bin .neq (.t 91) (.t 96)) 85 false) (.only 20 [7,19,5,13,18,4,12,17,3,11,15,1,9,10,14,0,8] (xQ 98 85 97) (.done))))))))))))))))))))))) (kF 98 [xF 4]))) (xr [xv 76 7,bI 77 .add 76 1,xv 7 77])))))) (.seq (kr [xI 8 0] (.blk 4 (.loop (.seq (kr [xv 99 8,xa 100 2 3,xl 101 100,xe 102 101,bT 103 .lss 99 102] (kX 103 4)) (.seq (.blk 5 (.seq (.dreg (.take 0 (xa 106 2 3) (.take 1 (xl 107 106) (.take 2 (xv 108 8) (.take 3 (xD 109 2 107 108) (.take 4 (xa 110 0 109) (.take 5 (xl 111 110) (.only 6 [] (xa 112 0 3) (.only 7 [] (xl 113 112) (.only 8 [] (xe 114 113) (.only 9 [] (bI 115 .sub 114 1) (.only 10 [5,4,3,1,2,0] (xc3 116 64 (.t 111) (xi 0) (.t 115)) (.only 11 [10,5,4,3,1,2,0] (xN 117 116) (.done)))))))))))))) (kF 117 [xF 4]))) (xr [xv 104 8,bI 105 .add 104 1,xv 8 105])))))) (kR [xT 4])))))⟩
structure Small (s:Source):Prop where
 ths:s.ths.length<2^40
 chs:s.chs.length<2^40
 tr:s.tr.length<2^40
 regs :∀t∈s.ths,t.regs.length<2^40
 list :∀c∈s.chs,c.list.length<2^40
def threadOk (b:List Ins) (t:Thread):Bool:=decide ((t.regs.length:Int)=4)&&within t.st 0 2&&within t.at_ 0 (b.length-1)
def sourceOk (p:Prog) (s:Source):Bool :=
 progOk p&&decide (s.ths.length=p.bods.length)&&decide (s.chs.length=p.caps.length)&&notesOk s.tr s.ths.length &&
 (List.range s.ths.length).all (fun i=>threadOk (p.bods.getD i []) (s.ths.getD i default)) &&
 (List.range s.chs.length).all (fun i=>chanOk (s.chs.getD i default)&&decide ((s.chs.getD i default).cap=p.caps.getD i 0))
theorem SmallP.body' {p:Prog} (h:SmallP p) :∀b∈p.bods,b.length<2^47:=fun b hb=>Nat.lt_trans (h.body b hb) (by decide)
theorem implSourceOk_ok (p:Prog) (s:Source) (hp:SmallP p) (hs:Small s):CallOk Tryz.prog num 50 [.agg (progC .bw p),.agg (sourceC .bw s)] [] (.bool (sourceOk p s)):=by
 have hb:=hp.body'
 obtain ⟨hp1,hp2,hp3⟩:=hp
 obtain ⟨hs1,hs2,hs3,hs4,hs5⟩:=hs
 refine EN m50 Tryz.func98 ?_
 unfold m50
 simp only [go_sem,seval]
 repeat refine K ?_
 refine CA [] (implProgOk_ok p (by omega) (by omega) hb) ?_
 try simp only [go_sem,seval]
 repeat refine K ?_
 cases h:progOk p
 ·simp only [go_sem,seval,h]
  repeat refine K ?_
  refine fz ?_; simp [FinS,nilL,nilV,oneOr,-List.drop_one]
  simp [sourceOk,h]
 ·simp only [go_sem,seval,h]
  repeat refine K ?_
  by_cases h1:(s.ths.length:Int)=p.bods.length
  case neg =>
   simp only [go_sem,seval,h1]
   repeat refine K ?_
   refine fz ?_; simp [FinS,nilL,nilV,oneOr,-List.drop_one]
   have :¬s.ths.length=p.bods.length:=by omega
   simp [sourceOk,this]
  simp only [go_sem,seval,h1]
  repeat refine K ?_
  by_cases h2:(s.chs.length:Int)=p.caps.length
  case neg =>
   simp only [go_sem,seval,h2]
   repeat refine K ?_
   refine fz ?_; simp [FinS,nilL,nilV,oneOr,-List.drop_one]
   have :¬s.chs.length=p.caps.length:=by omega
   simp [sourceOk,this]
  simp only [go_sem,seval,h2]
  repeat refine K ?_
  refine CA [] (notesOk_ok s.tr s.ths.length (by omega) (by omega) (by omega)) ?_
  try simp only [go_sem,seval]
  repeat refine K ?_
  cases h3:notesOk s.tr s.ths.length
  ·simp only [go_sem,seval,h3]
   repeat refine K ?_
   refine fz ?_; simp [FinS,nilL,nilV,oneOr,-List.drop_one]
   simp [sourceOk,h3]
  simp only [go_sem,seval,h3]
  repeat refine K ?_
  refine qA8 (ι:=Nat) (fun i=>.mk [(2,.ptr 10 0 0),(3,.ptr 11 0 0),(40,.sl .bw 3 (threads .bw s.ths)),(41,.int .i64 s.ths.length),(42,.int .i64 i)] [(10,2,[progC .bw p]),(11,3,[sourceC .bw s])] 12) (fun i=>i≤s.ths.length∧(List.range i).all (fun i=>threadOk (p.bods.getD i []) (s.ths.getD i default))=true) (fun i=>s.ths.length-i) 0 (by simp) ?_ ?_
  ·refine Sub.shape [] id (by omega) ?_ ?_ ?_ ?_<;>simp [qA2]
  ·rintro i ⟨hi,hpr⟩
   simp only [go_sem,seval]
   refine qA1 (fun hc=>?_) (fun hc=>?_)
   ·simp only [decide_eq_true_eq] at hc
    have hl':i<s.ths.length:=by omega
    have hlb:i<p.bods.length:=by omega
    have hbl:=hp3 _ (qAd p.bods i [] hlb)
    have hw1:IntKind.i64.wrap (((p.bods.getD i []).length:Int)-1)=((p.bods.getD i []).length:Int)-1:=qAg (by omega) (by omega)
    simp only [go_sem,seval,qA5 .bw s.ths i hl']
    repeat refine K ?_
    by_cases h4:((s.ths.getD i default).regs.length:Int)=4
    case neg =>
     simp only [go_sem,seval,h4]
     repeat refine K ?_
     refine fz ?_; simp [FinS,nilL,nilV,oneOr,-List.drop_one]
     simp only [sourceOk]
     rw [qB3 (P:=fun i=>threadOk (p.bods.getD i []) (s.ths.getD i default)) hl' (by simp only [threadOk,h4]; rfl)]
     simp
    simp only [go_sem,seval,h4]
    repeat refine K ?_
    refine DA [] (qAk (s.ths.getD i default).st 0 2) ?_
    try simp only [go_sem,seval]
    repeat refine K ?_
    cases h5:within (s.ths.getD i default).st 0 2
    ·simp only [go_sem,seval,h5]
     repeat refine K ?_
     refine fz ?_; simp [FinS,nilL,nilV,oneOr,-List.drop_one]
     simp only [sourceOk]
     rw [qB3 (P:=fun i=>threadOk (p.bods.getD i []) (s.ths.getD i default)) hl' (by simp only [threadOk,h4,h5]; rfl)]
     simp
    simp only [go_sem,seval,h5,qA9 .bw p.bods i hlb,hw1]
    repeat refine K ?_
    refine DA [] (qAk (s.ths.getD i default).at_ 0 ((p.bods.getD i []).length-1)) ?_
    try simp only [go_sem,seval]
    repeat refine K ?_
    cases h6:within (s.ths.getD i default).at_ 0 ((p.bods.getD i []).length-1)
    ·simp only [go_sem,seval,h6]
     repeat refine K ?_
     refine fz ?_; simp [FinS,nilL,nilV,oneOr,-List.drop_one]
     simp only [sourceOk]
     rw [qB3 (P:=fun i=>threadOk (p.bods.getD i []) (s.ths.getD i default)) hl' (by simp only [threadOk,h4,h5,h6]; rfl)]
     simp
    simp only [go_sem,seval,h6,qA7 (i:=i) (by omega)]
    repeat refine K ?_
    refine qA6 (i+1) (Sub.shape [] id (by omega) ?_ ?_ ?_ ?_) ?_ ?_
    any_goals (first | omega | (simp [qA2]; done))
    exact ⟨hl',qBt hpr (by simp only [threadOk,h4,h5,h6]; rfl)⟩
   ·simp only [decide_eq_false_iff_not] at hc
    have he1:=range_end hpr hc hi
    simp only [go_sem,seval]
    repeat refine K ?_
    refine qA8 (ι:=Nat) (fun i=>.mk [(2,.ptr 10 0 0),(3,.ptr 11 0 0),(72,.sl .bw 3 (chans .bw s.chs)),(73,.int .i64 s.chs.length),(74,.int .i64 i)] [(10,2,[progC .bw p]),(11,3,[sourceC .bw s])] 12) (fun i=>i≤s.chs.length∧(List.range i).all (fun i=>chanOk (s.chs.getD i default)&&decide ((s.chs.getD i default).cap=p.caps.getD i 0))=true) (fun i=>s.chs.length-i) 0 (by simp) ?_ ?_
    ·refine Sub.shape [] id (by omega) ?_ ?_ ?_ ?_<;>simp [qA2]
    ·rintro i ⟨hi,hpr⟩
     simp only [go_sem,seval]
     refine qA1 (fun hc=>?_) (fun hc=>?_)
     ·simp only [decide_eq_true_eq] at hc
      have hl':i<s.chs.length:=by omega
      have hlb:i<p.caps.length:=by omega
      simp only [go_sem,seval,qB1 .bw s.chs i hl']
      repeat refine K ?_
      refine DA [] (implChanOk_ok (s.chs.getD i default)) ?_
      try simp only [go_sem,seval]
      repeat refine K ?_
      cases h5:chanOk (s.chs.getD i default)
      ·simp only [go_sem,seval,h5]
       repeat refine K ?_
       refine fz ?_; simp [FinS,nilL,nilV,oneOr,-List.drop_one]
       simp only [sourceOk]
       rw [qB3 (P:=fun i=>chanOk (s.chs.getD i default)&&decide ((s.chs.getD i default).cap=p.caps.getD i 0)) hl' (by simp only [h5]; rfl)]
       simp
      simp only [go_sem,seval,h5,qA0 p.caps i hlb]
      repeat refine K ?_
      by_cases h6:(s.chs.getD i default).cap=p.caps.getD i 0
      case neg =>
       simp only [go_sem,seval,h6]
       repeat refine K ?_
       refine fz ?_; simp [FinS,nilL,nilV,oneOr,-List.drop_one]
       simp only [sourceOk]
       rw [qB3 (P:=fun i=>chanOk (s.chs.getD i default)&&decide ((s.chs.getD i default).cap=p.caps.getD i 0)) hl' (by simp only [h5,h6]; rfl)]
       simp
      simp only [go_sem,seval,h6,qA7 (i:=i) (by omega)]
      repeat refine K ?_
      refine qA6 (i+1) (Sub.shape [] id (by omega) ?_ ?_ ?_ ?_) ?_ ?_
      any_goals (first | omega | (simp [qA2]; done))
      exact ⟨hl',qBt hpr (by simp only [h5,h6]; rfl)⟩
     ·simp only [decide_eq_false_iff_not] at hc
      have he2:=range_end hpr hc hi
      simp only [go_sem,seval]
      repeat refine K ?_
      refine fz ?_; simp [FinS,nilL,nilV,oneOr,-List.drop_one]
      have e1:s.ths.length=p.bods.length:=by omega
      have e2:s.chs.length=p.caps.length:=by omega
      simp only [sourceOk]
      rw [he1,he2,h,h3]
      simp [e1,e2]
theorem specSourceOk_ok (p:Prog) (s:Source) (hp:SmallP p) (hs:Small s):CallOk Tryz.prog num 63 [.agg (progC .bw p),.agg (sourceC .bw s)] [] (.bool (sourceOk p s)):=by
 have hb:=hp.body'
 obtain ⟨hp1,hp2,hp3⟩:=hp
 obtain ⟨hs1,hs2,hs3,hs4,hs5⟩:=hs
 refine EN m63 Tryz.func91 ?_
 unfold m63
 simp only [go_sem,seval]
 repeat refine K ?_
 refine CA [] (qDk p (by omega) (by omega) hb) ?_
 try simp only [go_sem,seval]
 repeat refine K ?_
 cases h:progOk p
 ·simp only [go_sem,seval,h]
  repeat refine K ?_
  refine fz ?_; simp [FinS,nilL,nilV,oneOr,-List.drop_one]
  simp [sourceOk,h]
 ·simp only [go_sem,seval,h]
  repeat refine K ?_
  by_cases h1:(s.ths.length:Int)=p.bods.length
  case neg =>
   simp only [go_sem,seval,h1]
   repeat refine K ?_
   refine fz ?_; simp [FinS,nilL,nilV,oneOr,-List.drop_one]
   have :¬s.ths.length=p.bods.length:=by omega
   simp [sourceOk,this]
  simp only [go_sem,seval,h1]
  repeat refine K ?_
  by_cases h2:(s.chs.length:Int)=p.caps.length
  case neg =>
   simp only [go_sem,seval,h2]
   repeat refine K ?_
   refine fz ?_; simp [FinS,nilL,nilV,oneOr,-List.drop_one]
   have :¬s.chs.length=p.caps.length:=by omega
   simp [sourceOk,this]
  simp only [go_sem,seval,h2]
  repeat refine K ?_
  by_cases h3:(4000:Int)<s.tr.length
  ·simp only [go_sem,seval,h3]
   repeat refine K ?_
   refine fz ?_; simp [FinS,nilL,nilV,oneOr,-List.drop_one]
   have :¬(s.tr.length:Int)≤4000:=by omega
   simp [sourceOk,notesOk,this]
  simp only [go_sem,seval,h3]
  repeat refine K ?_
  refine qA8 (ι:=Nat) (fun i=>.mk [(2,.ptr 10 0 0),(3,.ptr 11 0 0),(5,.int .i64 i)] [(10,2,[progC .bw p]),(11,3,[sourceC .bw s])] 12) (fun i=>i≤s.ths.length∧(List.range i).all (fun i=>threadOk (p.bods.getD i []) (s.ths.getD i default))=true) (fun i=>s.ths.length-i) 0 (by simp) ?_ ?_
  ·refine Sub.shape [] id (by omega) ?_ ?_ ?_ ?_<;>simp [qA2]
  ·rintro i ⟨hi,hpr⟩
   simp only [go_sem,seval]
   repeat refine K ?_
   refine qA1 (fun hc=>?_) (fun hc=>?_)
   ·simp only [decide_eq_true_eq] at hc
    have hl':i<s.ths.length:=by omega
    have hlb:i<p.bods.length:=by omega
    have hbl:=hp3 _ (qAd p.bods i [] hlb)
    have hw1:IntKind.i64.wrap (((p.bods.getD i []).length:Int)-1)=((p.bods.getD i []).length:Int)-1:=qAg (by omega) (by omega)
    simp only [go_sem,seval,qA5 .bw s.ths i hl']
    repeat refine K ?_
    by_cases h4:((s.ths.getD i default).regs.length:Int)=4
    case neg =>
     simp only [go_sem,seval,h4]
     repeat refine K ?_
     refine fz ?_; simp [FinS,nilL,nilV,oneOr,-List.drop_one]
     simp only [sourceOk]
     rw [qB3 (P:=fun i=>threadOk (p.bods.getD i []) (s.ths.getD i default)) hl' (by simp only [threadOk,h4]; rfl)]
     simp
    simp only [go_sem,seval,h4]
    repeat refine K ?_
    refine DA [] (qAq (s.ths.getD i default).st 0 2) ?_
    try simp only [go_sem,seval]
    repeat refine K ?_
    cases h5:within (s.ths.getD i default).st 0 2
    ·simp only [go_sem,seval,h5]
     repeat refine K ?_
     refine fz ?_; simp [FinS,nilL,nilV,oneOr,-List.drop_one]
     simp only [sourceOk]
     rw [qB3 (P:=fun i=>threadOk (p.bods.getD i []) (s.ths.getD i default)) hl' (by simp only [threadOk,h4,h5]; rfl)]
     simp
    simp only [go_sem,seval,h5,qA9 .bw p.bods i hlb,hw1]
    repeat refine K ?_
    refine DA [] (qAq (s.ths.getD i default).at_ 0 ((p.bods.getD i []).length-1)) ?_
    try simp only [go_sem,seval]
    repeat refine K ?_
    cases h6:within (s.ths.getD i default).at_ 0 ((p.bods.getD i []).length-1)
    ·simp only [go_sem,seval,h6]
     repeat refine K ?_
     refine fz ?_; simp [FinS,nilL,nilV,oneOr,-List.drop_one]
     simp only [sourceOk]
     rw [qB3 (P:=fun i=>threadOk (p.bods.getD i []) (s.ths.getD i default)) hl' (by simp only [threadOk,h4,h5,h6]; rfl)]
     simp
    simp only [go_sem,seval,h6,qA7 (i:=i) (by omega)]
    repeat refine K ?_
    refine qA6 (i+1) (Sub.shape [] id (by omega) ?_ ?_ ?_ ?_) ?_ ?_
    any_goals (first | omega | (simp [qA2]; done))
    exact ⟨hl',qBt hpr (by simp only [threadOk,h4,h5,h6]; rfl)⟩
   ·simp only [decide_eq_false_iff_not] at hc
    have he1:=range_end hpr hc hi
    simp only [go_sem,seval]
    repeat refine K ?_
    refine qA8 (ι:=Nat) (fun i=>.mk [(2,.ptr 10 0 0),(3,.ptr 11 0 0),(7,.int .i64 i)] [(10,2,[progC .bw p]),(11,3,[sourceC .bw s])] 12) (fun i=>i≤s.chs.length∧(List.range i).all (fun i=>chanOk (s.chs.getD i default)&&decide ((s.chs.getD i default).cap=p.caps.getD i 0))=true) (fun i=>s.chs.length-i) 0 (by simp) ?_ ?_
    ·refine Sub.shape [] id (by omega) ?_ ?_ ?_ ?_<;>simp [qA2]
    ·rintro i ⟨hi,hpr⟩
     simp only [go_sem,seval]
     repeat refine K ?_
     refine qA1 (fun hc=>?_) (fun hc=>?_)
     ·simp only [decide_eq_true_eq] at hc
      have hl':i<s.chs.length:=by omega
      have hlb:i<p.caps.length:=by omega
      simp only [go_sem,seval,qB1 .bw s.chs i hl']
      repeat refine K ?_
      refine DA [] (specChanOk_ok (s.chs.getD i default)) ?_
      try simp only [go_sem,seval]
      repeat refine K ?_
      cases h5:chanOk (s.chs.getD i default)
      ·simp only [go_sem,seval,h5]
       repeat refine K ?_
       refine fz ?_; simp [FinS,nilL,nilV,oneOr,-List.drop_one]
       simp only [sourceOk]
       rw [qB3 (P:=fun i=>chanOk (s.chs.getD i default)&&decide ((s.chs.getD i default).cap=p.caps.getD i 0)) hl' (by simp only [h5]; rfl)]
       simp
      simp only [go_sem,seval,h5,qA0 p.caps i hlb,qB1 .bw s.chs i hl']
      repeat refine K ?_
      by_cases h6:(s.chs.getD i default).cap=p.caps.getD i 0
      case neg =>
       simp only [go_sem,seval,h6]
       repeat refine K ?_
       refine fz ?_; simp [FinS,nilL,nilV,oneOr,-List.drop_one]
       simp only [sourceOk]
       rw [qB3 (P:=fun i=>chanOk (s.chs.getD i default)&&decide ((s.chs.getD i default).cap=p.caps.getD i 0)) hl' (by simp only [h5,h6]; rfl)]
       simp
      simp only [go_sem,seval,h6,qA7 (i:=i) (by omega)]
      repeat refine K ?_
      refine qA6 (i+1) (Sub.shape [] id (by omega) ?_ ?_ ?_ ?_) ?_ ?_
      any_goals (first | omega | (simp [qA2]; done))
      exact ⟨hl',qBt hpr (by simp only [h5,h6]; rfl)⟩
     ·simp only [decide_eq_false_iff_not] at hc
      have he2:=range_end hpr hc hi
      simp only [go_sem,seval]
      repeat refine K ?_
      refine qA8 (ι:=Nat) (fun i=>.mk [(2,.ptr 10 0 0),(3,.ptr 11 0 0),(8,.int .i64 i)] [(10,2,[progC .bw p]),(11,3,[sourceC .bw s])] 12) (fun i=>i≤s.tr.length∧(s.tr.take i).all (fun x=>within x.who 0 (s.ths.length-1))=true) (fun i=>s.tr.length-i) 0 (by simp) ?_ ?_
      ·refine Sub.shape [] id (by omega) ?_ ?_ ?_ ?_<;>simp [qA2]
      ·rintro i ⟨hi,hpr⟩
       simp only [go_sem,seval]
       repeat refine K ?_
       have hw1:IntKind.i64.wrap ((s.ths.length:Int)-1)=(s.ths.length:Int)-1:=qAg (by omega) (by omega)
       refine qA1 (fun hc=>?_) (fun hc=>?_)
       ·simp only [decide_eq_true_eq] at hc
        have hl':i<s.tr.length:=by omega
        simp only [go_sem,seval,qCq s.tr i hl',hw1]
        repeat refine K ?_
        refine DA [] (qAq (s.tr.getD i default).who 0 (s.ths.length-1)) ?_
        try simp only [go_sem,seval]
        repeat refine K ?_
        cases h6:within (s.tr.getD i default).who 0 (s.ths.length-1)
        ·simp only [go_sem,seval,h6]
         repeat refine K ?_
         refine fz ?_; simp [FinS,nilL,nilV,oneOr,-List.drop_one]
         simp only [sourceOk,notesOk]
         rw [qBq (p:=fun x:Note=>within x.who 0 (s.ths.length-1)) hl' h6]
         simp
        simp only [go_sem,seval,h6,qA7 (i:=i) (by omega)]
        repeat refine K ?_
        refine qA6 (i+1) (Sub.shape [] id (by omega) ?_ ?_ ?_ ?_) ?_ ?_
        any_goals (first | omega | (simp [qA2]; done))
        exact ⟨hl',qC2 (p:=fun x:Note=>within x.who 0 (s.ths.length-1)) hpr hl' h6⟩
       ·simp only [decide_eq_false_iff_not] at hc
        have he3:=qDa hpr hc
        simp only [go_sem,seval]
        repeat refine K ?_
        refine fz ?_; simp [FinS,nilL,nilV,oneOr,-List.drop_one]
        have e1:s.ths.length=p.bods.length:=by omega
        have e2:s.chs.length=p.caps.length:=by omega
        have e3:(s.tr.length:Int)≤4000:=by omega
        simp only [sourceOk,notesOk]
        rw [he1,he2,he3,h]
        simp [e1,e2,e3]
def m417:MFn:=⟨32,[.t 4],kr [xF 4] (.seq (kr [xI 5 0] (.blk 0 (.loop (.seq (kr [xv 6 5,xv 7 0,xe 8 7,bT 9 .lss 6 8,xv 10 9,yv 11 5 10,yv 12 1 10,ye 13 12 10,xg 14 (.bin .lss (.t 11) (.t 13)) 10 true,xP 15 10 14] (kX 15 0)) (.seq (.blk 1 (.seq (.dreg (.take 0 (xv 18 0) (.take 1 (xv 19 5) (.take 2 (xD 20 2 18 19) (.take 3 (xm 21 2 20) (.take 4 (xv 22 1) (.only 5 [] (xv 23 5) (.only 6 [4] (xD 24 2 22 23) (.only 7 [6,4] (xm 25 2 24) (.only 8 [3,7,2,6,0,1,4] (xo 26 (.eqS true [true,true] (.t 21) (.t 25))) (.done))))))))))) (kF 26 [xF 4]))) (xr [xv 16 5,bI 17 .add 16 1,xv 5 17])))))) (kR [xv 27 0,xe 28 27,xv 29 1,xe 30 29,bT 31 .eql 28 30,xv 4 31]))⟩
def m419:MFn:=⟨26,[.t 4],kr [xF 4] (.seq (kr [xv 6 0,xe 7 6,xv 8 1,xe 9 8,bT 10 .neq 7 9] (kF 10 [xF 4])) (.seq (kr [xv 11 0,xe 12 11,xI 13 0] (.blk 0 (.loop (kr [bT 14 .lss 13 12] (.seq (kX 14 0) (.seq (.blk 1 (kr [xv 15 13,xv 5 15] (.seq (.dreg (.take 0 (xv 16 0) (.take 1 (xv 17 5) (.take 2 (xD 18 2 16 17) (.take 3 (xm 19 2 18) (.take 4 (xv 20 1) (.only 5 [] (xv 21 5) (.only 6 [4] (xD 22 2 20 21) (.only 7 [6,4] (xm 23 2 22) (.only 8 [3,7,2,6,0,1,4] (xo 24 (.eqS true [true,true] (.t 19) (.t 23))) (.done))))))))))) (kF 24 [xF 4])))) (xr [bI 25 .add 13 1,xv 13 25]))))))) (kR [xT 4])))⟩
theorem note_take2 {a b:List Note} (i:Nat) (h1:i<a.length) (h2:i<b.length) (hp:a.take i=b.take i) (he:a.getD i default=b.getD i default):a.take (i+1)=b.take (i+1):=by
 rw [qBm a default i h1,qBm b default i h2,hp,he]
theorem note_dec (x y:Note):(decide (x.who=y.who)&&decide (x.v=y.v))=decide (x=y):=by
 obtain ⟨x1,x2⟩:=x
 obtain ⟨y1,y2⟩:=y
 by_cases h1:x1=y1<;>by_cases h2:x2=y2<;>simp [h1,h2]
theorem take_all {α:Type} {a b:List α} {i:Nat} (hp:a.take i=b.take i) (h1:a.length≤i∨b.length≤i) (hl:a.length=b.length):a=b:=by
 rw [←List.take_of_length_le (show a.length≤i by omega),hp,List.take_of_length_le (by omega)]
theorem l13Notes_ok (a b:List Note) (h1:a.length<2^40):CallOk Tryz.prog num 417 [.sl .bw 2 (notes a),.sl .bw 2 (notes b)] [] (.bool (decide (a=b))):=by
 refine EN m417 Tryz.func92 ?_
 unfold m417
 simp only [go_sem,seval]
 repeat refine K ?_
 refine qA8 (ι:=Nat) (fun i=>.mk [(0,.sl .bw 2 (notes a)),(1,.sl .bw 2 (notes b)),(5,.int .i64 i)] [] 10) (fun i=>i≤a.length∧i≤b.length∧a.take i=b.take i) (fun i=>a.length-i) 0 (by simp) ?_ ?_
 ·refine Sub.shape [] id (by omega) ?_ ?_ ?_ ?_<;>simp [qA2]
 ·rintro i ⟨hi,hj,hp⟩
  have hend:(a.length≤i∨b.length≤i)→decide ((a.length:Int)=b.length)=decide (a=b):=fun h=>by
   by_cases hl:a.length=b.length
   ·rw [take_all hp h hl]
    simp
   ·have :¬a=b:=fun e=>hl (by rw [e])
    simp [this]
    omega
  by_cases hc1:(i:Int)<a.length
  case neg =>
   simp only [go_sem,seval,hc1,hend (.inl (by omega))]
   repeat refine K ?_
   refine fz ?_; simp [FinS,nilL,nilV,oneOr,-List.drop_one]
  by_cases hc2:(i:Int)<b.length
  case neg =>
   simp only [go_sem,seval,hc1,hc2,hend (.inr (by omega))]
   repeat refine K ?_
   refine fz ?_; simp [FinS,nilL,nilV,oneOr,-List.drop_one]
  have g1:i<a.length:=by omega
  have g2:i<b.length:=by omega
  simp only [go_sem,seval,hc1,hc2,qCq a i g1,qCq b i g2,note_dec]
  repeat refine K ?_
  by_cases he:a.getD i default=b.getD i default
  ·have d3:(!decide (a.getD i default=b.getD i default))=false:=by rw [decide_eq_true he]; rfl
   try simp only [go_sem,seval,d3,qA7 (i:=i) (by omega)]
   repeat refine K ?_
   refine qA6 (i+1) (Sub.shape [] id (by omega) ?_ ?_ ?_ ?_) ⟨g1,g2,note_take2 i g1 g2 hp he⟩ (by omega)<;>simp [qA2]
  ·have hne :¬a=b:=fun e=>he (by rw [e])
   have d3:(!decide (a.getD i default=b.getD i default))=true:=by rw [decide_eq_false he]; rfl
   try simp only [go_sem,seval,d3]
   repeat refine K ?_
   refine fz ?_; simp [FinS,nilL,nilV,oneOr,-List.drop_one]
   all_goals simp [hne]
theorem notesEqual_ok (a b:List Note) (h1:a.length<2^40):CallOk Tryz.prog num 419 [.sl .bw 2 (notes a),.sl .bw 2 (notes b)] [] (.bool (decide (a=b))):=by
 refine EN m419 Tryz.func99 ?_
 unfold m419
 by_cases hl:a.length=b.length
 ·have d0:decide ((a.length:Int)=(b.length:Int))=true:=by simp [hl]
  simp only [go_sem,seval,d0]
  repeat refine K ?_
  refine qA8 (ι:=Nat) (fun i=>.mk [(0,.sl .bw 2 (notes a)),(1,.sl .bw 2 (notes b)),(12,.int .i64 a.length),(13,.int .i64 i)] [] 10) (fun i=>i≤a.length∧a.take i=b.take i) (fun i=>a.length-i) 0 (by simp) ?_ ?_
  ·refine Sub.shape [] id (by omega) ?_ ?_ ?_ ?_<;>simp [qA2]
  ·rintro i ⟨hi,hp⟩
   simp only [go_sem,seval]
   refine qA1 (fun hc=>?_) (fun hc=>?_)
   ·simp only [decide_eq_true_eq] at hc
    have g1:i<a.length:=by omega
    have g2:i<b.length:=by omega
    simp only [go_sem,seval,qCq a i g1,qCq b i g2,note_dec]
    repeat refine K ?_
    by_cases he:a.getD i default=b.getD i default
    ·have d3:(!decide (a.getD i default=b.getD i default))=false:=by rw [decide_eq_true he]; rfl
     try simp only [go_sem,seval,d3,qA7 (i:=i) (by omega)]
     repeat refine K ?_
     refine qA6 (i+1) (Sub.shape [] id (by omega) ?_ ?_ ?_ ?_) ⟨g1,note_take2 i g1 g2 hp he⟩ (by omega)<;>simp [qA2]
    ·have hne :¬a=b:=fun e=>he (by rw [e])
     have d3:(!decide (a.getD i default=b.getD i default))=true:=by rw [decide_eq_false he]; rfl
     try simp only [go_sem,seval,d3]
     repeat refine K ?_
     refine fz ?_; simp [FinS,nilL,nilV,oneOr,-List.drop_one]
     all_goals simp [hne]
   ·simp only [decide_eq_false_iff_not] at hc
    have hab:a=b:=take_all hp (.inl (by omega)) hl
    simp only [go_sem,seval]
    repeat refine K ?_
    refine fz ?_; simp [FinS,nilL,nilV,oneOr,-List.drop_one]
    all_goals simp [hab]
 ·have d0:decide ((a.length:Int)=(b.length:Int))=false:=by simp; omega
  have hne :¬a=b:=fun e=>hl (by rw [e])
  simp only [go_sem,seval,d0]
  repeat refine K ?_
  refine fz ?_; simp [FinS,nilL,nilV,oneOr,-List.drop_one]
  all_goals simp [hne]
end Go.Sep
