/- Contracts of functions. -/
import Derived.Test.YtoijhndfkfliiaaCona
namespace Go.Sep
open Go.Proofs
set_option linter.unusedSimpArgs false
set_option linter.unusedVariables false
set_option maxRecDepth 100000
open Nat renaming reduceAdd → qA, reduceMul → qB, reduceEqDiff → qC, reduceBEq → qD
open Int renaming reduceToNat → qE, reduceEq → qF, reduceLT → qG, reduceLE → qH
open List renaming getD_eq_getElem?_getD → gD
attribute [local go_sem] paramT preH e_seq e_reg e_block e_loop e_ops e_skip e_ret e_cond e_guard e_call e_ops1 plan next_ok next_some Arg.ev lookT putD putT if_false if_true app1 put del ints_length binA Option.map_some Option.bind_some look Int.toNat_natCast e_blk e_stop e_exit exitIt true_and and_true maybe_do maybe_tf maybe_ft branch_true branch_false Bool.false_eq_true bnd? cellsOf openL List.isEmpty_nil List.isEmpty_cons fresh List.map_nil List.map_cons List.cons_append List.nil_append splice List.take_zero List.drop_zero List.take_succ_cons List.getD_cons_zero List.length_cons List.length_nil List.drop_succ_cons List.drop_nil List.append_nil List.all_cons List.all_nil cellOk Bool.and_self Nat.zero_add e_dreg e_done e_take e_only1 e_onlyc e_takeg e_onlyg e_both dnext_some dnext_ok dmaybe_do rdTake pdTake addP rdOnly pdOnly isRead alive needs undep apart List.filter_nil List.filter_cons Option.isSome_some Option.isSome_none List.contains_nil List.contains_cons List.forall_mem_cons List.mem_cons List.not_mem_nil false_implies implies_true forall_const forall_eq_or_imp forall_eq or_false beq_self_eq_true Bool.or_false Bool.false_or Bool.true_or Bool.or_true Bool.not_true Bool.not_false xv xo xg xr xi xz List.set_set maybe_skip dmaybe_skip dmaybe_tf dmaybe_ft fillR fillROk fillA fillOk srcA eqC bytesOf ints_append List.replicate_zero decide_true decide_false ints_set nil_bind List.replicate_succ Int.toNat_zero Int.toNat_one eq_self Bool.and_true Bool.true_and Bool.and_false Bool.false_and List.set_cons_zero List.set_cons_succ List.getD_cons_succ rnm ixm renV renL openV openVs cond_true cond_false ints_drop ints_take drop_all
attribute [local simp] hand bwT bwC bwL ints_bw ints_take lookT Arg.ev handOk bwOk bwOks bwTs nf_sl nf_int nf_bool ints_bnd okV okL nb nbs nbr ints_nb look ints_length bnd bnds bndr renV renL ixm rnm apart needs rdOnly pdOnly fresh openV openVs resAV allP giveL giveV postH del isOwn partR ints_drop drop_all shp okB okBs ints_free
attribute [local go_sem] inss_length inss_append inss_drop inss_take inss_set insC bodies_length bodies_append bodies_drop bodies_take bodies_set intss_length intss_append intss_drop intss_take intss_set chans_length chans_append chans_drop chans_take chans_set chanC notes_length notes_append notes_drop notes_take notes_set noteC threads_length threads_append threads_drop threads_take threads_set threadC wents_length wents_append wents_drop wents_take wents_set wentC progs_length progs_append progs_drop progs_take progs_set progC sources_length sources_append sources_drop sources_take sources_set sourceC bys_length bys_append bys_drop bys_take bys_set
attribute [local simp] nilL_cons nilL_nil nilV_agg nilV_tup nilV_nilsl nilV_nil nilV_sl nilV_int nilV_bool nilV_str nilV_ns nilV_ptr nilRs_cons nilRs_nil free_nil free_cons inss_nil inss_bw inss_bnd inss_nb inss_length inss_take inss_drop inss_free bodies_nil bodies_bw bodies_bnd bodies_nb bodies_length bodies_take bodies_drop bodies_free intss_nil intss_bw intss_bnd intss_nb intss_length intss_take intss_drop intss_free chans_nil chans_bw chans_bnd chans_nb chans_length chans_take chans_drop chans_free notes_nil notes_bw notes_bnd notes_nb notes_length notes_take notes_drop notes_free threads_nil threads_bw threads_bnd threads_nb threads_length threads_take threads_drop threads_free wents_nil wents_bw wents_bnd wents_nb wents_length wents_take wents_drop wents_free progs_nil progs_bw progs_bnd progs_nb progs_length progs_take progs_drop progs_free sources_nil sources_bw sources_bnd sources_nb sources_length sources_take sources_drop sources_free bys_nil bys_bw bys_bnd bys_nb bys_length bys_take bys_drop bys_free curC insC chanC noteC threadC wentC progC sourceC

set_option maxHeartbeats 4000000 in
theorem specInsOk_ok (x : Ins) (pl ch : Int) (h0 : -(2 ^ 62) ≤ ch) (h1 : ch < 2 ^ 62) : CallOk Try.prog num 92 [.agg (insC x), .int .i64 pl, .int .i64 ch] [] (.bool (insOk x pl ch)) := by
  refine enter (m := m92) (f := 92) (fn := Try.f186) Try.func186 (by kernel_rfl) rfl c92 rfl (by simp [Try.f186]) (by simp [bnds, bnd, nf_sl, nf_int, nf_bool, nf_str, ints_bnd]) (fun _ _ h => by simp [preH, look] at h) ?_
  unfold m92
  have hw : IntKind.i64.wrap (ch - 1) = ch - 1 := wrap64 (by omega) (by omega)
  repeat' (first
    | (simp only [go_sem, qA, qB, qC, qD, qE, qF, qG, qH, hw])
    | (refine branch_intro (fun hc => ?_) (fun hc => ?_) <;> ((try simp only [Bool.not_eq_true', Bool.not_eq_false', ne_eq, Bool.not_eq_true, Bool.not_eq_false] at hc) <;> (try simp only [hc])))
    | (refine maybe_intro (fun hc => ?_) (fun hc => ?_) <;> ((try simp only [Bool.not_eq_true', Bool.not_eq_false', ne_eq, Bool.not_eq_true, Bool.not_eq_false] at hc) <;> (try simp only [hc])))
    | (refine dmaybe_intro (fun hc => ?_) (fun hc => ?_) <;> ((try simp only [Bool.not_eq_true', Bool.not_eq_false', ne_eq, Bool.not_eq_true, Bool.not_eq_false] at hc) <;> (try simp only [hc])))
    | (refine call_plain (l1In_ok _ _ _) rfl rfl rfl rfl ?_)
    | (refine dcall_plain (l1In_ok _ _ _) rfl rfl rfl rfl ?_)
    | (refine ⟨by first | omega | (simp; done), ?_⟩)
    | fail)
  all_goals (refine ⟨_, Sub.refl _, ?_⟩; simp [FinS, nilL, nilV, oneOr, -List.drop_one])
  all_goals (try (simp_all [insOk]; done))
  all_goals (try (simp_all [insOk]; omega))


end Go.Sep
