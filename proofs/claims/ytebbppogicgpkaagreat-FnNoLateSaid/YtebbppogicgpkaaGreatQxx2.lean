/- Contracts of functions. -/
import Derived.Test.YtebbppogicgpkaaGreatQxx34
namespace Go.Sep
set_option maxHeartbeats 16000000
open Go.Proofs
set_option linter.unusedSimpArgs false
set_option linter.unusedVariables false
set_option maxRecDepth 100000
open Nat renaming reduceAdd → qA, reduceMul → qB, reduceEqDiff → qC, reduceBEq → qD
open Int renaming reduceToNat → qE, reduceEq → qF, reduceLT → qG, reduceLE → qH
attribute [local go_sem] paramT preH e_seq e_reg e_block e_loop e_ops e_skip e_ret e_cond e_guard e_call e_ops1 plan next_ok next_some Arg.ev lookT putD putT if_false if_true app1 put del qB6 binA Option.map_some Option.bind_some look Int.toNat_natCast e_blk e_stop e_exit exitIt true_and and_true maybe_do maybe_tf maybe_ft branch_true branch_false Bool.false_eq_true bnd? cellsOf openL List.isEmpty_nil List.isEmpty_cons fresh List.map_nil List.map_cons List.cons_append List.nil_append splice List.take_zero List.drop_zero List.take_succ_cons List.getD_cons_zero List.length_cons List.length_nil List.drop_succ_cons List.drop_nil List.append_nil List.all_cons List.all_nil cellOk Bool.and_self Nat.zero_add e_dreg e_done e_take e_only1 e_onlyc e_takeg e_onlyg e_both e_tri dnext_some dnext_ok dmaybe_do rdTake pdTake addP rdOnly pdOnly isRead alive needs undep apart List.filter_nil List.filter_cons Option.isSome_some Option.isSome_none List.contains_nil List.contains_cons List.forall_mem_cons List.mem_cons List.not_mem_nil false_implies implies_true forall_const forall_eq_or_imp forall_eq or_false beq_self_eq_true Bool.or_false Bool.false_or Bool.true_or Bool.or_true Bool.not_true Bool.not_false xv xo xg xr xi xz List.set_set maybe_skip dmaybe_skip dmaybe_tf dmaybe_ft fillR fillROk fillA fillOk srcA eqC bytesOf ints_append List.replicate_zero decide_true decide_false ints_set nil_bind List.replicate_succ Int.toNat_zero Int.toNat_one eq_self Bool.and_true Bool.true_and Bool.and_false Bool.false_and List.set_cons_zero List.set_cons_succ List.getD_cons_succ rnm ixm renV renL openV openVs cond_true cond_false ints_drop ints_take drop_all
attribute [local simp] hand bwT bwC bwL qAv ints_take lookT Arg.ev handOk bwOk bwOks bwTs nf_sl nf_int nf_bool qA9 okV okL nb nbs nbr qAt look qB6 bnd bnds bndr renV renL ixm rnm apart needs rdOnly pdOnly fresh openV openVs resAV allP giveL giveV postH del isOwn partR ints_drop drop_all shp okB okBs ints_free
theorem CAV {P:Program} {num:Nat→Nat} {fin:AS→Prop} {f nx:Nat} {y:Arg} {xs:List Arg} {t:List (Nat×AV)} {h:Heap} {fp:FP} {res:AV} {vargs:List AV} {dst:Option Nat} {k:List It} (σ:List (Nat×Nat)) (hc:CallOk P num f vargs fp res)
  (hk:vc P num fin k (.mk (putD t dst (openV nx (renV (rnm σ) res)).1) (app1 h (fp.map (fun x=>(rnm σ x.1,x.2))++fresh (openV nx (renV (rnm σ) res)).2.1)) (openV nx (renV (rnm σ) res)).2.2))
  (hy:y.ev (lookT t)=.fn f []:=by first | rfl | (simp; done) | (simp [*]; done))
  (hv:nilL (hand (ixm σ) h (xs.map fun _=>false) (xs.map (Arg.ev (lookT t)))) vargs:=by first | omega | (simp [nilL,nilV]; done) | (simp [nilL,nilV, *]; done))
  (hvo:handOk h (fun n =>∃x∈fp,x.2.1≠none∧n=rnm σ x.1∧ixm σ n=x.1) (fun n =>∃x∈fp,n=rnm σ x.1) (xs.map fun _=>false) (xs.map (Arg.ev (lookT t))):=by first | omega | (simp [nilL,nilV]; done) | (simp [nilL,nilV, *]; done))
  (hnd:(fp.map (fun x=>rnm σ x.1)).Nodup:=by first | (simp [nilL,nilV]; done) | (simp [nilL,nilV, *]; done))
  (hpre :∀x∈fp,look h (rnm σ x.1)=x.2.1∧(x.2.1=none→nx≤rnm σ x.1)∧rnm σ x.1<nx:=by first | (simp [nilL,nilV]; done) | (simp [nilL,nilV, *]; done))
  (hnb :∀x∈fp,(∀r,x.2.1=some r→nbr r.2)∧(∀r,x.2.2=some r→nbr r.2):=by first | (simp [nilL,nilV]; done) | (simp [nilL,nilV, *]; done))
  (hres:okV (fun k =>∃x∈fp,x.1=k∧x.2.2≠none) res:=by first | (simp [nilL,nilV]; done) | (simp [nilL,nilV, *]; done)):calls P num fin (.calv y xs) dst k (.mk t h nx) :=
 calls_intro (calv_ok σ hc hv hvo hnd hpre hnb hres (Nat.le_refl _) hy) hk
def m34:MFn:=⟨26,[.t 4],kr [xF 4] (.seq (kr [xv 6 0,xe 7 6,xv 8 1,xe 9 8,bT 10 .neq 7 9] (kF 10 [xF 4])) (.seq (kr [xv 11 0,xe 12 11,xI 13 0] (.blk 0 (.loop (kr [bT 14 .lss 13 12] (.seq (kX 14 0) (.seq (.blk 1 (kr [xv 15 13,xv 5 15] (.seq (.dreg (.take 0 (xv 16 0) (.take 1 (xv 17 5) (.take 2 (xD 18 1 16 17) (.take 3 (xl 19 18) (.take 4 (xv 20 1) (.only 5 [] (xv 21 5) (.only 6 [4] (xD 22 1 20 21) (.only 7 [6,4] (xl 23 22) (.only 8 [3,7,2,6,0,1,4] (bT 24 .neq 19 23) (.done))))))))))) (kF 24 [xF 4])))) (xr [bI 25 .add 13 1,xv 13 25]))))))) (kR [xT 4])))⟩
theorem slicesEqual_ok (xs ys:List Int) (hx:xs.length≤2^47):CallOk Tryz.prog num 34 [.sl .bw 1 (ints xs),.sl .bw 1 (ints ys)] [] (.bool (decide (xs=ys))):=by
 refine EN m34 Tryz.func88 ?_
 unfold m34
 simp only [go_sem,qA,qB,qC,qD,qE,qF,qG,qH]
 refine branch_intro (fun hc=>?_) (fun hc=>?_)
 ·have hne:xs≠ys:=fun he=>by subst he; simp at hc
  simp only [go_sem,qA,qB,qC,qD,qE,qF,qG,qH]
  refine ⟨_,Sub.refl _,?_⟩
  simp [FinS,nilL,nilV,oneOr,-List.drop_one]
  exact hne
 ·have hl:xs.length=ys.length:=by simp at hc; omega
  simp only [go_sem,qA,qB,qC,qD,qE,qF,qG,qH]
  refine loop_intro (ι:=Nat) (fun i=>.mk [(0,.sl .bw 1 (ints xs)),(1,.sl .bw 1 (ints ys)),(12,.int .i64 xs.length),(13,.int .i64 i)] [] 10) (fun i=>i≤xs.length∧xs.take i=ys.take i) (fun i=>xs.length-i) 0 (by simp) ?_ ?_
  ·refine Sub.shape [] id (by omega) ?_ ?_ ?_ ?_<;>simp [ints_rep]
  ·rintro i ⟨hi,hp⟩
   simp only [go_sem,qA,qB,qC,qD,qE,qF,qG,qH]
   refine branch_intro (fun hc=>?_) (fun hc=>?_)
   ·simp only [decide_eq_true_eq] at hc
    have hil:i<xs.length:=by omega
    have hjl:i<ys.length:=by omega
    simp only [go_sem,qA,qB,qC,qD,qE,qF,qG,qH,ints_getD xs i hil,ints_getD ys i hjl]
    refine ⟨by omega,by omega,by omega,by omega,branch_intro (fun hc=>?_) (fun hc=>?_)⟩
    ·have hne:xs≠ys:=fun he=>by subst he; simp at hc
     simp only [go_sem,qA,qB,qC,qD,qE,qF,qG,qH]
     refine ⟨_,Sub.refl _,?_⟩
     simp [FinS,nilL,nilV,oneOr,-List.drop_one]
     exact hne
    ·have hw:=wrap_succ (i:=i) (by omega)
     simp only [go_sem,qA,qB,qC,qD,qE,qF,qG,qH,hw]
     have he:xs.getD i 0=ys.getD i 0:=by simpa using hc
     refine back_intro (i+1) (Sub.shape [] id (by omega) ?_ ?_ ?_ ?_) ⟨hil,?_⟩ (by omega)
     case refine_5 =>
      rw [List.take_succ_eq_append_getElem hil,List.take_succ_eq_append_getElem hjl,hp]
      have he':xs[i]=ys[i]:=by simpa [List.getD_eq_getElem?_getD,hil,hjl] using he
      rw [he']
     all_goals simp [ints_rep]
   ·simp only [decide_eq_false_iff_not] at hc
    have hi':i=xs.length:=by omega
    have he:xs=ys:=by
     rw [hi',List.take_length,hl,List.take_length] at hp
     exact hp
    simp only [go_sem,qA,qB,qC,qD,qE,qF,qG,qH]
    refine ⟨_,Sub.refl _,?_⟩
    simp [FinS,nilL,nilV,oneOr,-List.drop_one]
    exact he
theorem Inv.runLate {p:Prog} :∀(l:List Pick) {m:Machine} {s:Source} (k:List Pick),Inv p m s→l.map (·.who)=k.map (·.who)→mrun m l=mrun m k∧worder p m l=worder p m k
 | [],m,s,k,h,he=>by
  have:k=[]:=by cases k<;>simp_all
  subst this
  exact ⟨rfl,rfl⟩
 | x::l,m,s,k,h,he=>by
  cases k with
  | nil=>simp at he
  | cons y k =>
   simp only [List.map_cons,List.cons.injEq] at he
   have hx:=h.late x
   have hy:=h.late y
   rw [←he.1] at hy
   have hxy:mstep m x=mstep m y:=by rw [hx,hy]
   have hd:did p m x=did p m y:=by unfold did; rw [hxy,he.1]
   have hI :∃s',Inv p (mstep m x).1 s':=by
    rcases h.pick x with ⟨_,h2⟩ | ⟨_,_,h3⟩
    ·exact ⟨_,h2⟩
    ·exact ⟨_,h3⟩
   obtain ⟨s',hI⟩:=hI
   obtain ⟨g1,g2⟩:=Inv.runLate l k hI he.2
   simp only [mrun,worder]
   rw [g1,g2,hxy,hd,he.1]
   exact ⟨rfl,rfl⟩
theorem witness_late {p:Prog} {l k:List Pick} (h:l.map (·.who)=k.map (·.who)):witness p l=witness p k:=by
 have hl:l.length=k.length:=by have:=congrArg List.length h; simpa using this
 unfold witness
 rw [hl]
 cases ho:(launch p).2
 ·rfl
 ·obtain ⟨a,b⟩:=(Inv.launch ho).runLate l k h
  rw [a,b]
def m184:MFn:=⟨20,[.t 4],kr [xI 4 0] (.seq (kr [xv 5 1,xv 6 0,xe 7 6,bT 8 .lss 5 7] (kF 8 [xv 9 0,xv 10 1,xD 11 1 9 10,xl 12 11,xo 13 (.cvi .i64 (.t 12)),xv 4 13])) (kR [xv 14 1,bI 15 .mul 14 7,xv 16 0,xe 17 16,bT 18 .add 15 17,bI 19 .rem 18 256,xv 4 19]))⟩
def isByte (x:Int):Prop:=0≤x∧x<256
theorem bytes_in (l:List UInt8) :∀x∈l.map (fun n=>(n.toNat:Int)),isByte x:=fun x hx=>by
 obtain ⟨n,_,rfl⟩:=List.mem_map.1 hx
 have:=n.toNat_lt
 exact ⟨by omega,by omega⟩
def atF (code:List Int) (i:Nat):Int:=if i<code.length then code.getD i 0 else Int.tmod ((i:Int)*7+code.length) 256
theorem at_ok (code:List Int) (i:Nat) (hb:code.length<2^62) (hi:i<2^30) (hby :∀x∈code,isByte x):CallOk Tryz.prog num 184 [.sl .bw 1 (bys code),.int .i64 i] [] (.int .i64 (atF code i)):=by
 refine EN m184 Tryz.func29 ?_
 unfold m184
 by_cases h:i<code.length
 ·have hx:=hby _ (getD_mem code i 0 h)
  unfold isByte at hx
  have q:IntKind.i64.wrap (code.getD i 0)=code.getD i 0:=wrap64 (by omega) (by omega)
  have hh:(i:Int)<code.length:=by omega
  simp only [go_sem,seval,hh,bys_getD code i h,q]
  repeat refine K ?_
  refine fz ?_; simp [FinS,nilL,nilV,oneOr,-List.drop_one]
  simp [atF,h]
 ·have hh :¬(i:Int)<code.length:=by omega
  have q1:IntKind.i64.wrap ((i:Int)*7)=(i:Int)*7:=wrap64 (by omega) (by omega)
  have q2:IntKind.i64.wrap ((i:Int)*7+code.length)=(i:Int)*7+code.length:=wrap64 (by omega) (by omega)
  have q3:IntKind.i64.wrap (Int.tmod ((i:Int)*7+code.length) 256)=Int.tmod ((i:Int)*7+code.length) 256:=by
   have h1:=Int.tmod_nonneg (a:=(i:Int)*7+code.length) 256 (by omega)
   have h2:=Int.tmod_lt_of_pos ((i:Int)*7+code.length) (b:=256) (by omega)
   exact wrap64 (by omega) (by omega)
  simp only [go_sem,seval,hh,q1,q2,q3]
  repeat refine K ?_
  refine fz ?_; simp [FinS,nilL,nilV,oneOr,-List.drop_one]
  simp [atF,h]
theorem atF_pos (code:List Int) (i:Nat) (hby :∀x∈code,isByte x):0≤atF code i∧atF code i<256:=by
 unfold atF
 split
 ·rename_i h
  have hx:=hby _ (getD_mem code i 0 h)
  unfold isByte at hx
  omega
 ·exact ⟨Int.tmod_nonneg _ (by omega),Int.tmod_lt_of_pos _ (by omega)⟩
end Go.Sep
