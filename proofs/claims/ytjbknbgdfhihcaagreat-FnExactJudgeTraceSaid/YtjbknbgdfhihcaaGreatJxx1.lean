/- Contracts of functions. -/
import Derived.Test.YtjbknbgdfhihcaaGreatJxx5
import Derived.Test.YtjbknbgdfhihcaaGreatJxx9
namespace Go.Sep
set_option maxHeartbeats 16000000
open Go.Proofs
set_option linter.unusedSimpArgs false
set_option linter.unusedVariables false
set_option maxRecDepth 100000
def m36:MFn:=⟨6,[.t 2],kr [xo 2 (.mv (.c (.nil)))] (kR [xo 3 (.mkSl [xz] 0 []),xv 4 0,xA 5 1 8 3 4,xv 2 5])⟩
attribute [local go_sem] paramT preH e_seq e_reg e_block e_loop e_ops e_skip e_ret e_cond e_guard e_call e_ops1 plan next_ok next_some Arg.ev lookT putD putT if_false if_true app1 put del qBf binA Option.map_some Option.bind_some look Int.toNat_natCast e_blk e_stop e_exit exitIt true_and and_true maybe_do maybe_tf maybe_ft branch_true qE4 Bool.false_eq_true bnd? cellsOf openL List.isEmpty_nil List.isEmpty_cons fresh List.map_nil List.map_cons List.cons_append List.nil_append splice List.take_zero List.drop_zero List.take_succ_cons List.getD_cons_zero List.length_cons List.length_nil List.drop_succ_cons List.drop_nil List.append_nil List.all_cons List.all_nil cellOk Bool.and_self Nat.zero_add e_dreg e_done e_take e_only1 e_onlyc e_takeg e_onlyg e_both e_tri dnext_some dnext_ok dmaybe_do rdTake pdTake addP rdOnly pdOnly isRead alive needs undep apart List.filter_nil List.filter_cons Option.isSome_some Option.isSome_none List.contains_nil List.contains_cons List.forall_mem_cons List.mem_cons List.not_mem_nil false_implies implies_true forall_const forall_eq_or_imp forall_eq or_false beq_self_eq_true Bool.or_false Bool.false_or Bool.true_or Bool.or_true Bool.not_true Bool.not_false xv xo xg xr xi xz List.set_set maybe_skip dmaybe_skip dmaybe_tf dmaybe_ft fillR fillROk fillA fillOk srcA eqC bytesOf ints_append List.replicate_zero decide_true decide_false ints_set nil_bind List.replicate_succ Int.toNat_zero Int.toNat_one eq_self Bool.and_true Bool.true_and Bool.and_false Bool.false_and List.set_cons_zero List.set_cons_succ List.getD_cons_succ rnm ixm renV renL openV openVs cond_true cond_false qD5 qD4 qDu
attribute [local simp] hand bwT bwC bwL qC1 qD4 lookT Arg.ev handOk bwOk bwOks bwTs nf_sl nf_int nf_bool qAo okV okL nb nbs nbr qBy look qBf bnd bnds bndr renV renL ixm rnm apart needs rdOnly pdOnly fresh openV openVs resAV allP giveL giveV postH del isOwn partR qD5 qDu shp okB okBs ints_free
theorem qAn (who_:Int) (v_:Int):[[.int .i64 who_,.int .i64 v_]]=notes [⟨who_,v_⟩]:=rfl
theorem nilRs_refl :∀(l:List (List AV)),nilRs l l
 | []=>by simp [nilRs]
 | r::l=>(qCs r r l l).2 ⟨nilL_refl r,nilRs_refl l⟩
theorem nilRs_app :∀{a a' b b':List (List AV)},nilRs a a'→nilRs b b'→nilRs (a++b) (a'++b')
 | [],a',b,b',h1,h2=>by
  simp only [nilRs] at h1
  subst h1
  exact h2
 | r::a,a',b,b',h1,h2=>by
  simp only [nilRs] at h1
  obtain ⟨d,ds,rfl,h3,h4⟩:=h1
  exact (qCs r d _ _).2 ⟨h3,nilRs_app h4 h2⟩
theorem Sub.nilRow (nm:Nat) {t:List (Nat×AV)} {h:Heap} {nx sz:Nat} {rows rows':List (List AV)} (hl:look h nm=some (sz,rows)) (hn:nilRs rows rows') (hbn:bndr (· < nx) rows'):Sub (.mk t h nx) (.mk t (put h nm (sz,rows')) nx):=by
 rintro B a w ⟨h1,h2,hb,hbt,φ,Lf,hl'⟩
 have hlk :∀n,look (put h nm (sz,rows')) n=if n=nm then some (sz,rows') else look h n:=fun n=>look_put n
 have hne :∀n,look (put h nm (sz,rows')) n≠none→look h n≠none:=fun n hn'=>by
  rw [hlk] at hn'
  split at hn'
  ·rename_i he; rw [he,hl]; simp
  ·exact hn'
 refine ⟨h1,h2,?_,hbt,φ,Lf,⟨hl'.ok.size0,hl'.ok.io0,hl'.ok.fr,hl'.ok.keep0,fun n hn'=>hl'.ok.own0 n (hne n hn'),?_,fun n hn'=>hl'.ok.rh.nodup n (hne n hn'),fun n hn'=>hl'.ok.rh.blk n (hne n hn'),fun n m hn' hm=>hl'.ok.rh.dis n m (hne n hn') (hne m hm),?_⟩,hl'.tm,hl'.φ0,hl'.ten⟩
 ·intro n row hr
  rw [hlk] at hr
  split at hr
  ·rename_i he
   simp only [Option.some.injEq] at hr
   subst hr he
   exact ⟨(hb n _ hl).1,hbn⟩
  ·exact hb n row hr
 ·intro n row hr
  rw [hlk] at hr
  split at hr
  ·rename_i he
   simp only [Option.some.injEq] at hr
   subst hr he
   have:=hl'.ok.rh.row n _ hl
   unfold RowAt RowSp at this⊢
   cases hq:(B.env w φ).φ n with
   | dead=>rw [hq] at this; exact this.elim
   | nilp =>
    rw [hq] at this
    simp only at this
    obtain ⟨h3,h4⟩:=this
    rw [h3] at hn
    simp only [nilRs] at hn
    exact ⟨hn,h4⟩
   | «at» p =>
    rw [hq] at this
    obtain ⟨h3,h4,Lr,h5,h6⟩:=this
    exact ⟨h3,by rw [nilRs_length hn]; exact h4,Lr,nilRs_ok hn h5,h6⟩
  ·exact hl'.ok.rh.row n row hr
 ·intro n hn'
  rw [hlk] at hn'
  split at hn'
  ·simp at hn'
  ·exact hl'.ok.rh.dead n hn'
theorem Sub.nilLast (nm:Nat) {t:List (Nat×AV)} {h:Heap} {nx sz:Nat} {front:List (List AV)} {r r':List AV} (hl:look h nm=some (sz,front++[r])) (hn:nilL r r') (hbn:bndr (· < nx) (front++[r'])):Sub (.mk t h nx) (.mk t (put h nm (sz,front++[r'])) nx) :=
 Sub.nilRow nm hl (nilRs_app (nilRs_refl front) ((qCs r r' [] []).2 ⟨hn,(nilRs_nil).2 trivial⟩)) hbn
theorem qAi {rs:List MRes} {fp:FP} {v:AV} {s:AS} {t:List (Nat×AV)} {h:Heap} {nx:Nat} (hs:Sub s (.mk t h nx)) (h1:allP (rs.map fun r=>(resAV t h r).2)∧(giveL h (rs.map fun r=>(resAV t h r).1)).2.2∧nilL (giveL h (rs.map fun r=>(resAV t h r).1)).1 [v]∧∀x∈fp,look (giveL h (rs.map fun r=>(resAV t h r).1)).2.1 x.1=look (postH fp) x.1):Fin rs fp v s :=
 ⟨_,hs,qAm h1⟩
theorem qBj {P:Program} {num:Nat→Nat} {fin:AS→Prop} {op:MOp} {dst:Option Nat} {k:List It} {s:AS} {t:List (Nat×AV)} {h:Heap} {nx:Nat} (hs:Sub s (.mk t h nx)) (h1:calls P num fin op dst k (.mk t h nx)):calls P num fin op dst k s:=calls_sub hs h1
theorem qDy (xs:List Int) (hx:8*xs.length≤2^47):CallOk Tryz.prog num 36 [.sl .bw 1 (ints xs)] [] (.sl .own 1 (ints xs)):=by
 refine EN m36 Tryz.func135 ?_
 unfold m36
 simp only [go_sem,seval]
 repeat refine K ?_
 refine fz ?_; simp [FinS,nilL,nilV,oneOr,-List.drop_one]
theorem insOk_op {x:Ins} {pl ch:Int} (h:insOk x pl ch=true):within x.op 1 13=true∧within x.r 0 3=true∧within x.a 0 3=true∧within x.b 0 3=true:=by
 rw [←insOkF_eq] at h
 simp only [insOkF,Bool.and_eq_true] at h
 exact ⟨h.1.1.1.1.1.2,h.1.1.1.2,h.1.1.2,h.1.2⟩
theorem qAb {α:Type} (l:List α) (i:Nat) (x d:α) (h:i<l.length):(l.set i x).getD i d=x:=by simp [List.getD_eq_getElem?_getD,h]
theorem qAf {α:Type} (l:List α) (i:Nat) (d:α) (h:i<l.length):l.set i (l.getD i d)=l:=by
 rw [List.getD_eq_getElem?_getD,List.getElem?_eq_getElem h,Option.getD_some,List.set_getElem_self]
theorem tots_le {α:Type} {w:α→Nat} {c:Nat} :∀{l:List α},(∀x∈l,w x≤c)→tots w l≤c*l.length
 | [],_=>by simp [tots]
 | a::l,h=>by
  have h1:=h a (by simp)
  have h2:=tots_le (l:=l) (fun x hx=>h x (by simp [hx]))
  simp only [tots,List.length_cons]
  rw [Nat.mul_add,Nat.mul_one]
  omega
theorem qCo (op_:Int) (r_:Int) (a_:Int) (b_:Int) (n_:Int):[[.int .i64 op_,.int .i64 r_,.int .i64 a_,.int .i64 b_,.int .i64 n_]]=steps [⟨op_,r_,a_,b_,n_⟩]:=rfl
theorem pcks_rep (n:Nat) (who_:Int) (late_:Int):List.replicate n [.int .i64 who_,.int .i64 late_]=pcks (List.replicate n ⟨who_,late_⟩):=by simp [pcks,pickC]
theorem pcks_getD (l:List Pick) (i:Nat) (h:i<l.length):(pcks l).getD i []=[.int .i64 (l.getD i default).who,.int .i64 (l.getD i default).late]:=by simp [pcks,pickC,List.getD_eq_getElem?_getD,h]
structure Em where
 list:List Step
 from_:Int
 base:Int
 room:Int
 deriving Inhabited
def emC (m:Mode) (x:Em):List AV:=[.sl m 5 (steps x.list),.int .i64 x.from_,.int .i64 x.base,.int .i64 x.room]
attribute [go_sem] emC
attribute [simp] emC
end Go.Sep
