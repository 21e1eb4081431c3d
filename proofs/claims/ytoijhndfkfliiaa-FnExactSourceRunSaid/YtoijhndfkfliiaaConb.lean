/- Contracts of functions. -/
import Derived.Test.YtoijhndfkfliiaaCona
namespace Go.Sep
open Go.Proofs
set_option linter.unusedSimpArgs false
set_option linter.unusedVariables false
set_option maxRecDepth 100000
open Nat renaming reduceAdd → qA, reduceMul → qB, reduceEqDiff → qC, reduceBEq → qD
open Int renaming reduceToNat → qE, reduceEq → qF, reduceLT → qG, reduceLE → qH
open List renaming getD_eq_getElem?_getD → gD
attribute [local go_sem] paramT preH e_seq e_reg e_block e_loop e_ops e_skip e_ret e_cond e_guard e_call e_ops1 plan next_ok next_some Arg.ev lookT putD putT if_false if_true app1 put del ints_length binA Option.map_some Option.bind_some look Int.toNat_natCast e_blk e_stop e_exit exitIt true_and and_true maybe_do maybe_tf maybe_ft branch_true branch_false Bool.false_eq_true bnd? cellsOf openL List.isEmpty_nil List.isEmpty_cons fresh List.map_nil List.map_cons List.cons_append List.nil_append splice List.take_zero List.drop_zero List.take_succ_cons List.getD_cons_zero List.length_cons List.length_nil List.drop_succ_cons List.drop_nil List.append_nil List.all_cons List.all_nil cellOk Bool.and_self Nat.zero_add e_dreg e_done e_take e_only1 e_onlyc e_takeg e_onlyg e_both dnext_some dnext_ok dmaybe_do rdTake pdTake addP rdOnly pdOnly isRead alive needs undep apart List.filter_nil List.filter_cons Option.isSome_some Option.isSome_none List.contains_nil List.contains_cons List.forall_mem_cons List.mem_cons List.not_mem_nil false_implies implies_true forall_const forall_eq_or_imp forall_eq or_false beq_self_eq_true Bool.or_false Bool.false_or Bool.true_or Bool.or_true Bool.not_true Bool.not_false xv xo xg xr xi xz List.set_set maybe_skip dmaybe_skip dmaybe_tf dmaybe_ft fillR fillROk fillA fillOk srcA eqC bytesOf ints_append List.replicate_zero decide_true decide_false ints_set nil_bind List.replicate_succ Int.toNat_zero Int.toNat_one eq_self Bool.and_true Bool.true_and Bool.and_false Bool.false_and List.set_cons_zero List.set_cons_succ List.getD_cons_succ rnm ixm renV renL openV openVs cond_true cond_false ints_drop ints_take drop_all
attribute [local simp] hand bwT bwC bwL ints_bw ints_take lookT Arg.ev handOk bwOk bwOks bwTs nf_sl nf_int nf_bool ints_bnd okV okL nb nbs nbr ints_nb look ints_length bnd bnds bndr renV renL ixm rnm apart needs rdOnly pdOnly fresh openV openVs resAV allP giveL giveV postH del isOwn partR ints_drop drop_all shp okB okBs ints_free
attribute [local go_sem] inss_length inss_append inss_drop inss_take inss_set insC bodies_length bodies_append bodies_drop bodies_take bodies_set intss_length intss_append intss_drop intss_take intss_set chans_length chans_append chans_drop chans_take chans_set chanC notes_length notes_append notes_drop notes_take notes_set noteC threads_length threads_append threads_drop threads_take threads_set threadC wents_length wents_append wents_drop wents_take wents_set wentC progs_length progs_append progs_drop progs_take progs_set progC sources_length sources_append sources_drop sources_take sources_set sourceC bys_length bys_append bys_drop bys_take bys_set
attribute [local simp] nilL_cons nilL_nil nilV_agg nilV_tup nilV_nilsl nilV_nil nilV_sl nilV_int nilV_bool nilV_str nilV_ns nilV_ptr nilRs_cons nilRs_nil free_nil free_cons inss_nil inss_bw inss_bnd inss_nb inss_length inss_take inss_drop inss_free bodies_nil bodies_bw bodies_bnd bodies_nb bodies_length bodies_take bodies_drop bodies_free intss_nil intss_bw intss_bnd intss_nb intss_length intss_take intss_drop intss_free chans_nil chans_bw chans_bnd chans_nb chans_length chans_take chans_drop chans_free notes_nil notes_bw notes_bnd notes_nb notes_length notes_take notes_drop notes_free threads_nil threads_bw threads_bnd threads_nb threads_length threads_take threads_drop threads_free wents_nil wents_bw wents_bnd wents_nb wents_length wents_take wents_drop wents_free progs_nil progs_bw progs_bnd progs_nb progs_length progs_take progs_drop progs_free sources_nil sources_bw sources_bnd sources_nb sources_length sources_take sources_drop sources_free bys_nil bys_bw bys_bnd bys_nb bys_length bys_take bys_drop bys_free curC insC chanC noteC threadC wentC progC sourceC

def chanSend (c : Chan) (v : Int) : Chan × Int :=
  if c.closed || !chanOk c then (c, 2) else if (c.list.length : Int) = c.cap then (c, 1) else ({ c with list := c.list ++ [v] }, 0)
def chanTake (c : Chan) : Chan × Int × Int :=
  if !chanOk c then (c, 0, 2) else if 0 < c.list.length then ({ c with list := c.list.drop 1 }, c.list.getD 0 0, 0) else if c.closed then (c, 0, 3) else (c, 0, 1)
def chanClose (c : Chan) : Chan × Int := if c.closed || !chanOk c then (c, 2) else ({ c with closed := true }, 0)

theorem implChanSend_ok (c : Chan) (v : Int) (hx : 8 * c.list.length < 2 ^ 46) : CallOk Try.prog num 79 [.agg (chanC .bw c), .int .i64 v] [] (.tup [.agg (chanC .own (chanSend c v).1), .int .i64 (chanSend c v).2]) := by
  refine enter (m := m79) (f := 79) (fn := Try.f246) Try.func246 (by kernel_rfl) rfl c79 rfl (by simp [Try.f246]) (by simp [bnds, bnd, nf_sl, nf_int, nf_bool, nf_str, ints_bnd]) (fun _ _ h => by simp [preH, look] at h) ?_
  unfold m79
  simp only [go_sem, qA, qB, qC, qD, qE, qF, qG, qH]
  repeat (refine ⟨(by first | omega | (simp [-gD]; first | done | omega)), ?_⟩)
  refine calls_intro (call_ok0 [] (copyChan_ok c (by omega)) ?_ ?_ ?_ ?_ ?_ ?_) ?_
  any_goals (first | omega | (simp [nilL, nilV]; done) | (simp [nilL, nilV, *]; done))
  try simp only [go_sem, qA, qB, qC, qD, qE, qF, qG, qH]
  repeat (refine ⟨(by first | omega | (simp [-gD]; first | done | omega)), ?_⟩)
  cases hc : c.closed
  · simp only [go_sem, qA, qB, qC, qD, qE, qF, qG, qH, hc]
    repeat (refine ⟨(by first | omega | (simp [-gD]; first | done | omega)), ?_⟩)
    refine calls_intro (call_ok0 [] (implChanOk_ok c) ?_ ?_ ?_ ?_ ?_ ?_) ?_
    any_goals (first | omega | (simp [nilL, nilV]; done) | (simp [nilL, nilV, *]; done))
    try simp only [go_sem, qA, qB, qC, qD, qE, qF, qG, qH]
    repeat (refine ⟨(by first | omega | (simp [-gD]; first | done | omega)), ?_⟩)
    cases ho : chanOk c
    · simp only [go_sem, qA, qB, qC, qD, qE, qF, qG, qH, ho, hc]
      repeat (refine ⟨(by first | omega | (simp [-gD]; first | done | omega)), ?_⟩)
      refine ⟨_, Sub.refl _, ?_⟩; simp [FinS, nilL, nilV, oneOr, -List.drop_one]
      simp [chanSend, hc, ho]
    · simp only [go_sem, qA, qB, qC, qD, qE, qF, qG, qH, ho, hc]
      repeat (refine ⟨(by first | omega | (simp [-gD]; first | done | omega)), ?_⟩)
      by_cases hl : (c.list.length : Int) = c.cap
      · simp only [go_sem, qA, qB, qC, qD, qE, qF, qG, qH, hl]
        repeat (refine ⟨(by first | omega | (simp [-gD]; first | done | omega)), ?_⟩)
        refine ⟨_, Sub.refl _, ?_⟩; simp [FinS, nilL, nilV, oneOr, -List.drop_one]
        simp [chanSend, hc, ho, hl]
      · simp only [go_sem, qA, qB, qC, qD, qE, qF, qG, qH, hl]
        repeat (refine ⟨(by first | omega | (simp [-gD]; first | done | omega)), ?_⟩)
        refine ⟨_, Sub.refl _, ?_⟩; simp [FinS, nilL, nilV, oneOr, -List.drop_one]
        simp [chanSend, hc, ho, hl, ints]
  · simp only [go_sem, qA, qB, qC, qD, qE, qF, qG, qH, hc]
    repeat (refine ⟨(by first | omega | (simp [-gD]; first | done | omega)), ?_⟩)
    refine ⟨_, Sub.refl _, ?_⟩; simp [FinS, nilL, nilV, oneOr, -List.drop_one]
    simp [chanSend, hc]

theorem implChanTake_ok (c : Chan) (hx : 8 * c.list.length < 2 ^ 46) : CallOk Try.prog num 80 [.agg (chanC .bw c)] [] (.tup [.agg (chanC .own (chanTake c).1), .int .i64 (chanTake c).2.1, .int .i64 (chanTake c).2.2]) := by
  refine enter (m := m80) (f := 80) (fn := Try.f247) Try.func247 (by kernel_rfl) rfl c80 rfl (by simp [Try.f247]) (by simp [bnds, bnd, nf_sl, nf_int, nf_bool, nf_str, ints_bnd]) (fun _ _ h => by simp [preH, look] at h) ?_
  unfold m80
  simp only [go_sem, qA, qB, qC, qD, qE, qF, qG, qH]
  repeat (refine ⟨(by first | omega | (simp [-gD]; first | done | omega)), ?_⟩)
  refine calls_intro (call_ok0 [] (copyChan_ok c (by omega)) ?_ ?_ ?_ ?_ ?_ ?_) ?_
  any_goals (first | omega | (simp [nilL, nilV]; done) | (simp [nilL, nilV, *]; done))
  try simp only [go_sem, qA, qB, qC, qD, qE, qF, qG, qH]
  repeat (refine ⟨(by first | omega | (simp [-gD]; first | done | omega)), ?_⟩)
  refine calls_intro (call_ok0 [] (implChanOk_ok c) ?_ ?_ ?_ ?_ ?_ ?_) ?_
  any_goals (first | omega | (simp [nilL, nilV]; done) | (simp [nilL, nilV, *]; done))
  try simp only [go_sem, qA, qB, qC, qD, qE, qF, qG, qH]
  repeat (refine ⟨(by first | omega | (simp [-gD]; first | done | omega)), ?_⟩)
  cases ho : chanOk c
  · simp only [go_sem, qA, qB, qC, qD, qE, qF, qG, qH, ho]
    repeat (refine ⟨(by first | omega | (simp [-gD]; first | done | omega)), ?_⟩)
    refine ⟨_, Sub.refl _, ?_⟩; simp [FinS, nilL, nilV, oneOr, -List.drop_one]
    simp [chanTake, ho]
  · simp only [go_sem, qA, qB, qC, qD, qE, qF, qG, qH, ho]
    repeat (refine ⟨(by first | omega | (simp [-gD]; first | done | omega)), ?_⟩)
    by_cases hl : (0 : Int) < c.list.length
    · have hl' : 0 < c.list.length := by omega
      simp only [go_sem, qA, qB, qC, qD, qE, qF, qG, qH, hl, ints_getD c.list 0 hl']
      repeat (refine ⟨(by first | omega | (simp [-gD]; first | done | omega)), ?_⟩)
      refine ⟨_, Sub.refl _, ?_⟩; simp [FinS, nilL, nilV, oneOr, -List.drop_one]
      simp [chanTake, ho, hl'] <;> try omega
    · have hl' : ¬ 0 < c.list.length := by omega
      simp only [go_sem, qA, qB, qC, qD, qE, qF, qG, qH, hl]
      repeat (refine ⟨(by first | omega | (simp [-gD]; first | done | omega)), ?_⟩)
      cases hc : c.closed
      · simp only [go_sem, qA, qB, qC, qD, qE, qF, qG, qH, hc]
        repeat (refine ⟨(by first | omega | (simp [-gD]; first | done | omega)), ?_⟩)
        refine ⟨_, Sub.refl _, ?_⟩; simp [FinS, nilL, nilV, oneOr, -List.drop_one]
        simp [chanTake, ho, hl', hc]
      · simp only [go_sem, qA, qB, qC, qD, qE, qF, qG, qH, hc]
        repeat (refine ⟨(by first | omega | (simp [-gD]; first | done | omega)), ?_⟩)
        refine ⟨_, Sub.refl _, ?_⟩; simp [FinS, nilL, nilV, oneOr, -List.drop_one]
        simp [chanTake, ho, hl', hc]

theorem implChanClose_ok (c : Chan) (hx : 8 * c.list.length < 2 ^ 46) : CallOk Try.prog num 81 [.agg (chanC .bw c)] [] (.tup [.agg (chanC .own (chanClose c).1), .int .i64 (chanClose c).2]) := by
  refine enter (m := m81) (f := 81) (fn := Try.f248) Try.func248 (by kernel_rfl) rfl c81 rfl (by simp [Try.f248]) (by simp [bnds, bnd, nf_sl, nf_int, nf_bool, nf_str, ints_bnd]) (fun _ _ h => by simp [preH, look] at h) ?_
  unfold m81
  simp only [go_sem, qA, qB, qC, qD, qE, qF, qG, qH]
  repeat (refine ⟨(by first | omega | (simp [-gD]; first | done | omega)), ?_⟩)
  refine calls_intro (call_ok0 [] (copyChan_ok c (by omega)) ?_ ?_ ?_ ?_ ?_ ?_) ?_
  any_goals (first | omega | (simp [nilL, nilV]; done) | (simp [nilL, nilV, *]; done))
  try simp only [go_sem, qA, qB, qC, qD, qE, qF, qG, qH]
  repeat (refine ⟨(by first | omega | (simp [-gD]; first | done | omega)), ?_⟩)
  cases hc : c.closed
  · simp only [go_sem, qA, qB, qC, qD, qE, qF, qG, qH, hc]
    repeat (refine ⟨(by first | omega | (simp [-gD]; first | done | omega)), ?_⟩)
    refine calls_intro (call_ok0 [] (implChanOk_ok c) ?_ ?_ ?_ ?_ ?_ ?_) ?_
    any_goals (first | omega | (simp [nilL, nilV]; done) | (simp [nilL, nilV, *]; done))
    try simp only [go_sem, qA, qB, qC, qD, qE, qF, qG, qH]
    repeat (refine ⟨(by first | omega | (simp [-gD]; first | done | omega)), ?_⟩)
    cases ho : chanOk c
    · simp only [go_sem, qA, qB, qC, qD, qE, qF, qG, qH, ho]
      repeat (refine ⟨(by first | omega | (simp [-gD]; first | done | omega)), ?_⟩)
      refine ⟨_, Sub.refl _, ?_⟩; simp [FinS, nilL, nilV, oneOr, -List.drop_one]
      simp [chanClose, hc, ho]
    · simp only [go_sem, qA, qB, qC, qD, qE, qF, qG, qH, ho]
      repeat (refine ⟨(by first | omega | (simp [-gD]; first | done | omega)), ?_⟩)
      refine ⟨_, Sub.refl _, ?_⟩; simp [FinS, nilL, nilV, oneOr, -List.drop_one]
      simp [chanClose, hc, ho]
  · simp only [go_sem, qA, qB, qC, qD, qE, qF, qG, qH, hc]
    repeat (refine ⟨(by first | omega | (simp [-gD]; first | done | omega)), ?_⟩)
    refine ⟨_, Sub.refl _, ?_⟩; simp [FinS, nilL, nilV, oneOr, -List.drop_one]
    simp [chanClose, hc]

theorem specChanSend_ok (c : Chan) (v : Int) (hx : 8 * c.list.length < 2 ^ 46) : CallOk Try.prog num 93 [.agg (chanC .bw c), .int .i64 v] [] (.tup [.agg (chanC .own (chanSend c v).1), .int .i64 (chanSend c v).2]) := by
  refine enter (m := m93) (f := 93) (fn := Try.f282) Try.func282 (by kernel_rfl) rfl c93 rfl (by simp [Try.f282]) (by simp [bnds, bnd, nf_sl, nf_int, nf_bool, nf_str, ints_bnd]) (fun _ _ h => by simp [preH, look] at h) ?_
  unfold m93
  simp only [go_sem, qA, qB, qC, qD, qE, qF, qG, qH]
  repeat (refine ⟨(by first | omega | (simp [-gD]; first | done | omega)), ?_⟩)
  refine calls_intro (call_ok0 [] (l3Copy_ok c (by omega)) ?_ ?_ ?_ ?_ ?_ ?_) ?_
  any_goals (first | omega | (simp [nilL, nilV]; done) | (simp [nilL, nilV, *]; done))
  try simp only [go_sem, qA, qB, qC, qD, qE, qF, qG, qH]
  repeat (refine ⟨(by first | omega | (simp [-gD]; first | done | omega)), ?_⟩)
  cases hc : c.closed
  · simp only [go_sem, qA, qB, qC, qD, qE, qF, qG, qH, hc]
    repeat (refine ⟨(by first | omega | (simp [-gD]; first | done | omega)), ?_⟩)
    refine calls_intro (call_ok0 [] (specChanOk_ok c) ?_ ?_ ?_ ?_ ?_ ?_) ?_
    any_goals (first | omega | (simp [nilL, nilV]; done) | (simp [nilL, nilV, *]; done))
    try simp only [go_sem, qA, qB, qC, qD, qE, qF, qG, qH]
    repeat (refine ⟨(by first | omega | (simp [-gD]; first | done | omega)), ?_⟩)
    cases ho : chanOk c
    · simp only [go_sem, qA, qB, qC, qD, qE, qF, qG, qH, ho, hc]
      repeat (refine ⟨(by first | omega | (simp [-gD]; first | done | omega)), ?_⟩)
      refine ⟨_, Sub.refl _, ?_⟩; simp [FinS, nilL, nilV, oneOr, -List.drop_one]
      simp [chanSend, hc, ho]
    · simp only [go_sem, qA, qB, qC, qD, qE, qF, qG, qH, ho, hc]
      repeat (refine ⟨(by first | omega | (simp [-gD]; first | done | omega)), ?_⟩)
      by_cases hl : (c.list.length : Int) = c.cap
      · simp only [go_sem, qA, qB, qC, qD, qE, qF, qG, qH, hl]
        repeat (refine ⟨(by first | omega | (simp [-gD]; first | done | omega)), ?_⟩)
        refine ⟨_, Sub.refl _, ?_⟩; simp [FinS, nilL, nilV, oneOr, -List.drop_one]
        simp [chanSend, hc, ho, hl]
      · simp only [go_sem, qA, qB, qC, qD, qE, qF, qG, qH, hl]
        repeat (refine ⟨(by first | omega | (simp [-gD]; first | done | omega)), ?_⟩)
        refine ⟨_, Sub.refl _, ?_⟩; simp [FinS, nilL, nilV, oneOr, -List.drop_one]
        simp [chanSend, hc, ho, hl, ints]
  · simp only [go_sem, qA, qB, qC, qD, qE, qF, qG, qH, hc]
    repeat (refine ⟨(by first | omega | (simp [-gD]; first | done | omega)), ?_⟩)
    refine ⟨_, Sub.refl _, ?_⟩; simp [FinS, nilL, nilV, oneOr, -List.drop_one]
    simp [chanSend, hc]

theorem specChanTake_ok (c : Chan) (hx : 8 * c.list.length < 2 ^ 46) : CallOk Try.prog num 95 [.agg (chanC .bw c)] [] (.tup [.agg (chanC .own (chanTake c).1), .int .i64 (chanTake c).2.1, .int .i64 (chanTake c).2.2]) := by
  refine enter (m := m95) (f := 95) (fn := Try.f284) Try.func284 (by kernel_rfl) rfl c95 rfl (by simp [Try.f284]) (by simp [bnds, bnd, nf_sl, nf_int, nf_bool, nf_str, ints_bnd]) (fun _ _ h => by simp [preH, look] at h) ?_
  unfold m95
  simp only [go_sem, qA, qB, qC, qD, qE, qF, qG, qH]
  repeat (refine ⟨(by first | omega | (simp [-gD]; first | done | omega)), ?_⟩)
  refine calls_intro (call_ok0 [] (l3Copy_ok c (by omega)) ?_ ?_ ?_ ?_ ?_ ?_) ?_
  any_goals (first | omega | (simp [nilL, nilV]; done) | (simp [nilL, nilV, *]; done))
  try simp only [go_sem, qA, qB, qC, qD, qE, qF, qG, qH]
  repeat (refine ⟨(by first | omega | (simp [-gD]; first | done | omega)), ?_⟩)
  refine calls_intro (call_ok0 [] (specChanOk_ok c) ?_ ?_ ?_ ?_ ?_ ?_) ?_
  any_goals (first | omega | (simp [nilL, nilV]; done) | (simp [nilL, nilV, *]; done))
  try simp only [go_sem, qA, qB, qC, qD, qE, qF, qG, qH]
  repeat (refine ⟨(by first | omega | (simp [-gD]; first | done | omega)), ?_⟩)
  cases ho : chanOk c
  · simp only [go_sem, qA, qB, qC, qD, qE, qF, qG, qH, ho]
    repeat (refine ⟨(by first | omega | (simp [-gD]; first | done | omega)), ?_⟩)
    refine ⟨_, Sub.refl _, ?_⟩; simp [FinS, nilL, nilV, oneOr, -List.drop_one]
    simp [chanTake, ho]
  · simp only [go_sem, qA, qB, qC, qD, qE, qF, qG, qH, ho]
    repeat (refine ⟨(by first | omega | (simp [-gD]; first | done | omega)), ?_⟩)
    by_cases hl : (0 : Int) < c.list.length
    · have hl' : 0 < c.list.length := by omega
      simp only [go_sem, qA, qB, qC, qD, qE, qF, qG, qH, hl, ints_getD c.list 0 hl']
      repeat (refine ⟨(by first | omega | (simp [-gD]; first | done | omega)), ?_⟩)
      refine ⟨_, Sub.refl _, ?_⟩; simp [FinS, nilL, nilV, oneOr, -List.drop_one]
      simp [chanTake, ho, hl'] <;> try omega
    · have hl' : ¬ 0 < c.list.length := by omega
      simp only [go_sem, qA, qB, qC, qD, qE, qF, qG, qH, hl]
      repeat (refine ⟨(by first | omega | (simp [-gD]; first | done | omega)), ?_⟩)
      cases hc : c.closed
      · simp only [go_sem, qA, qB, qC, qD, qE, qF, qG, qH, hc]
        repeat (refine ⟨(by first | omega | (simp [-gD]; first | done | omega)), ?_⟩)
        refine ⟨_, Sub.refl _, ?_⟩; simp [FinS, nilL, nilV, oneOr, -List.drop_one]
        simp [chanTake, ho, hl', hc]
      · simp only [go_sem, qA, qB, qC, qD, qE, qF, qG, qH, hc]
        repeat (refine ⟨(by first | omega | (simp [-gD]; first | done | omega)), ?_⟩)
        refine ⟨_, Sub.refl _, ?_⟩; simp [FinS, nilL, nilV, oneOr, -List.drop_one]
        simp [chanTake, ho, hl', hc]

theorem specChanClose_ok (c : Chan) (hx : 8 * c.list.length < 2 ^ 46) : CallOk Try.prog num 94 [.agg (chanC .bw c)] [] (.tup [.agg (chanC .own (chanClose c).1), .int .i64 (chanClose c).2]) := by
  refine enter (m := m94) (f := 94) (fn := Try.f283) Try.func283 (by kernel_rfl) rfl c94 rfl (by simp [Try.f283]) (by simp [bnds, bnd, nf_sl, nf_int, nf_bool, nf_str, ints_bnd]) (fun _ _ h => by simp [preH, look] at h) ?_
  unfold m94
  simp only [go_sem, qA, qB, qC, qD, qE, qF, qG, qH]
  repeat (refine ⟨(by first | omega | (simp [-gD]; first | done | omega)), ?_⟩)
  refine calls_intro (call_ok0 [] (l3Copy_ok c (by omega)) ?_ ?_ ?_ ?_ ?_ ?_) ?_
  any_goals (first | omega | (simp [nilL, nilV]; done) | (simp [nilL, nilV, *]; done))
  try simp only [go_sem, qA, qB, qC, qD, qE, qF, qG, qH]
  repeat (refine ⟨(by first | omega | (simp [-gD]; first | done | omega)), ?_⟩)
  cases hc : c.closed
  · simp only [go_sem, qA, qB, qC, qD, qE, qF, qG, qH, hc]
    repeat (refine ⟨(by first | omega | (simp [-gD]; first | done | omega)), ?_⟩)
    refine calls_intro (call_ok0 [] (specChanOk_ok c) ?_ ?_ ?_ ?_ ?_ ?_) ?_
    any_goals (first | omega | (simp [nilL, nilV]; done) | (simp [nilL, nilV, *]; done))
    try simp only [go_sem, qA, qB, qC, qD, qE, qF, qG, qH]
    repeat (refine ⟨(by first | omega | (simp [-gD]; first | done | omega)), ?_⟩)
    cases ho : chanOk c
    · simp only [go_sem, qA, qB, qC, qD, qE, qF, qG, qH, ho]
      repeat (refine ⟨(by first | omega | (simp [-gD]; first | done | omega)), ?_⟩)
      refine ⟨_, Sub.refl _, ?_⟩; simp [FinS, nilL, nilV, oneOr, -List.drop_one]
      simp [chanClose, hc, ho]
    · simp only [go_sem, qA, qB, qC, qD, qE, qF, qG, qH, ho]
      repeat (refine ⟨(by first | omega | (simp [-gD]; first | done | omega)), ?_⟩)
      refine ⟨_, Sub.refl _, ?_⟩; simp [FinS, nilL, nilV, oneOr, -List.drop_one]
      simp [chanClose, hc, ho]
  · simp only [go_sem, qA, qB, qC, qD, qE, qF, qG, qH, hc]
    repeat (refine ⟨(by first | omega | (simp [-gD]; first | done | omega)), ?_⟩)
    refine ⟨_, Sub.refl _, ?_⟩; simp [FinS, nilL, nilV, oneOr, -List.drop_one]
    simp [chanClose, hc]

set_option maxHeartbeats 4000000 in
theorem implInsOk_ok (x : Ins) (pl ch : Int) (h0 : -(2 ^ 62) ≤ ch) (h1 : ch < 2 ^ 62) (h2 : -(2 ^ 62) ≤ pl) (h3 : pl < 2 ^ 62) : CallOk Try.prog num 88 [.agg (insC x), .int .i64 pl, .int .i64 ch] [] (.bool (insOk x pl ch)) := by
  rw [← insOkF_eq]
  refine enter (m := m88) (f := 88) (fn := Try.f197) Try.func197 (by kernel_rfl) rfl c88 rfl (by simp [Try.f197]) (by simp [bnds, bnd, nf_sl, nf_int, nf_bool, nf_str, ints_bnd]) (fun _ _ h => by simp [preH, look] at h) ?_
  unfold m88
  have hw : IntKind.i64.wrap (ch - 1) = ch - 1 := wrap64 (by omega) (by omega)
  have hw2 : IntKind.i64.wrap (pl - 1) = pl - 1 := wrap64 (by omega) (by omega)
  repeat' (first
    | (simp only [go_sem, qA, qB, qC, qD, qE, qF, qG, qH, hw, hw2])
    | (refine branch_intro (fun hc => ?_) (fun hc => ?_) <;> ((try simp only [Bool.not_eq_true', Bool.not_eq_false', ne_eq, Bool.not_eq_true, Bool.not_eq_false] at hc) <;> (try simp only [hc])))
    | (refine maybe_intro (fun hc => ?_) (fun hc => ?_) <;> ((try simp only [Bool.not_eq_true', Bool.not_eq_false', ne_eq, Bool.not_eq_true, Bool.not_eq_false] at hc) <;> (try simp only [hc])))
    | (refine dmaybe_intro (fun hc => ?_) (fun hc => ?_) <;> ((try simp only [Bool.not_eq_true', Bool.not_eq_false', ne_eq, Bool.not_eq_true, Bool.not_eq_false] at hc) <;> (try simp only [hc])))
    | (refine call_plain (within_ok _ _ _) rfl rfl rfl rfl ?_)
    | (refine dcall_plain (within_ok _ _ _) rfl rfl rfl rfl ?_)
    | (refine call_plain (isReg_ok _) rfl rfl rfl rfl ?_)
    | (refine dcall_plain (isReg_ok _) rfl rfl rfl rfl ?_)
    | (refine call_plain (named_ok _) rfl rfl rfl rfl ?_)
    | (refine dcall_plain (named_ok _) rfl rfl rfl rfl ?_)
    | (refine call_plain (ofChan_ok _) rfl rfl rfl rfl ?_)
    | (refine dcall_plain (ofChan_ok _) rfl rfl rfl rfl ?_)
    | (refine ⟨by first | omega | (simp; done), ?_⟩)
    | fail)
  all_goals (refine ⟨_, Sub.refl _, ?_⟩; simp [FinS, nilL, nilV, oneOr, -List.drop_one])
  all_goals (try (simp_all [insOkF]; done))
  all_goals (try (simp_all [insOkF]; omega))


end Go.Sep
