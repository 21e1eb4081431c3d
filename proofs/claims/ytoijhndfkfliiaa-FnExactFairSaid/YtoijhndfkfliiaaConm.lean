/- Contracts of functions. -/
import Derived.Test.YtoijhndfkfliiaaConl
namespace Go.Sep
open Go.Proofs
set_option linter.unusedSimpArgs false
set_option linter.unusedVariables false
set_option maxRecDepth 100000
open Nat renaming reduceAdd → qA, reduceMul → qB, reduceEqDiff → qC, reduceBEq → qD
open Int renaming reduceToNat → qE, reduceEq → qF, reduceLT → qG, reduceLE → qH
open List renaming getD_eq_getElem?_getD → gD
attribute [local go_sem] paramT preH e_seq e_reg e_block e_loop e_ops e_skip e_ret e_cond e_guard e_call e_ops1 plan next_ok next_some Arg.ev lookT putD putT if_false if_true app1 put del ints_length binA Option.map_some Option.bind_some look Int.toNat_natCast e_blk e_stop e_exit exitIt true_and and_true maybe_do maybe_tf maybe_ft branch_true branch_false Bool.false_eq_true bnd? cellsOf openL List.isEmpty_nil List.isEmpty_cons fresh List.map_nil List.map_cons List.cons_append List.nil_append splice List.take_zero List.drop_zero List.take_succ_cons List.getD_cons_zero List.length_cons List.length_nil List.drop_succ_cons List.drop_nil List.append_nil List.all_cons List.all_nil cellOk Bool.and_self Nat.zero_add e_dreg e_done e_take e_only1 e_onlyc e_takeg e_onlyg e_both dnext_some dnext_ok dmaybe_do rdTake pdTake addP rdOnly pdOnly isRead alive needs undep apart List.filter_nil List.filter_cons Option.isSome_some Option.isSome_none List.contains_nil List.contains_cons List.forall_mem_cons List.mem_cons List.not_mem_nil false_implies implies_true forall_const forall_eq_or_imp forall_eq or_false beq_self_eq_true Bool.or_false Bool.false_or Bool.true_or Bool.or_true Bool.not_true Bool.not_false xv xo xg xr xi xz List.set_set maybe_skip dmaybe_skip dmaybe_tf dmaybe_ft fillR fillROk fillA fillOk srcA eqC bytesOf ints_append List.replicate_zero decide_true decide_false ints_set nil_bind List.replicate_succ Int.toNat_zero Int.toNat_one eq_self Bool.and_true Bool.true_and Bool.and_false Bool.false_and List.set_cons_zero List.set_cons_succ List.getD_cons_succ rnm ixm renV renL openV openVs cond_true cond_false ints_drop ints_take drop_all
attribute [local simp] hand bwT bwC bwL ints_bw ints_take lookT Arg.ev handOk bwOk bwOks bwTs nf_sl nf_int nf_bool ints_bnd okV okL nb nbs nbr ints_nb look ints_length bnd bnds bndr renV renL ixm rnm apart needs rdOnly pdOnly fresh openV openVs resAV allP giveL giveV postH del isOwn partR ints_drop drop_all shp okB okBs ints_free
attribute [local go_sem] inss_length inss_append inss_drop inss_take inss_set insC bodies_length bodies_append bodies_drop bodies_take bodies_set intss_length intss_append intss_drop intss_take intss_set chans_length chans_append chans_drop chans_take chans_set chanC notes_length notes_append notes_drop notes_take notes_set noteC threads_length threads_append threads_drop threads_take threads_set threadC wents_length wents_append wents_drop wents_take wents_set wentC progs_length progs_append progs_drop progs_take progs_set progC sources_length sources_append sources_drop sources_take sources_set sourceC bys_length bys_append bys_drop bys_take bys_set
attribute [local simp] nilL_cons nilL_nil nilV_agg nilV_tup nilV_nilsl nilV_nil nilV_sl nilV_int nilV_bool nilV_str nilV_ns nilV_ptr nilRs_cons nilRs_nil free_nil free_cons inss_nil inss_bw inss_bnd inss_nb inss_length inss_take inss_drop inss_free bodies_nil bodies_bw bodies_bnd bodies_nb bodies_length bodies_take bodies_drop bodies_free intss_nil intss_bw intss_bnd intss_nb intss_length intss_take intss_drop intss_free chans_nil chans_bw chans_bnd chans_nb chans_length chans_take chans_drop chans_free notes_nil notes_bw notes_bnd notes_nb notes_length notes_take notes_drop notes_free threads_nil threads_bw threads_bnd threads_nb threads_length threads_take threads_drop threads_free wents_nil wents_bw wents_bnd wents_nb wents_length wents_take wents_drop wents_free progs_nil progs_bw progs_bnd progs_nb progs_length progs_take progs_drop progs_free sources_nil sources_bw sources_bnd sources_nb sources_length sources_take sources_drop sources_free bys_nil bys_bw bys_bnd bys_nb bys_length bys_take bys_drop bys_free curC insC chanC noteC threadC wentC progC sourceC

def fairK (rounds : Int) : Nat := (if rounds < 200 then rounds else 200).toNat
theorem fairK_le (r : Int) : fairK r ≤ 200 := by unfold fairK; split <;> omega
theorem fairK_lt {r : Int} {i : Nat} : ((i : Int) < r ∧ (i : Int) < 200) ↔ i < fairK r := by unfold fairK; split <;> omega
theorem fairK_lt' {r : Int} {i : Nat} : (i : Int) < (if r < 200 then r else 200) ↔ i < fairK r := by unfold fairK; split <;> omega

set_option maxHeartbeats 8000000 in
theorem implFair_ok (p : Prog) (s : Source) (rounds : Int) (hp : SmallP p) (hs : Small s) : CallOk Try.prog num 144 [.agg (progC .bw p), .agg (sourceC .bw s), .int .i64 rounds] [] (.tup [.agg (sourceC .own (fair p s rounds).1), .int .i64 (fair p s rounds).2]) := by
  refine enter (m := m144) (f := 144) (fn := Try.f31) Try.func31 (by kernel_rfl) rfl c144 rfl (by simp [Try.f31]) (by simp [bnds, bnd, nf_sl, nf_int, nf_bool, nf_str, ints_bnd]) (fun _ _ h => by simp [preH, look] at h) ?_
  unfold m144
  simp only [go_sem, qA, qB, qC, qD, qE, qF, qG, qH]
  repeat (refine ⟨(by first | omega | (simp [-gD]; first | done | omega)), ?_⟩)
  refine calls_intro (call_ok0 [] (implSourceOk_ok p s hp hs) ?_ ?_ ?_ ?_ ?_ ?_) ?_
  any_goals (first | omega | (simp [nilL, nilV]; done) | (simp [nilL, nilV, *]; done))
  try simp only [go_sem, qA, qB, qC, qD, qE, qF, qG, qH]
  repeat (refine ⟨(by first | omega | (simp [-gD]; first | done | omega)), ?_⟩)
  cases hok : sourceOk p s
  · try simp only [go_sem, qA, qB, qC, qD, qE, qF, qG, qH, hok]
    repeat (refine ⟨(by first | omega | (simp [-gD]; first | done | omega)), ?_⟩)
    apply fin_tup (by simp)
    · exact Sub.refl _
    · simp [-List.drop_one, -gD, fair, hok, threads_nil, chans_nil, notes_nil] <;> (first | rfl | exact ⟨rfl, rfl⟩ | exact ⟨rfl, rfl, rfl⟩ | skip)
  try simp only [go_sem, qA, qB, qC, qD, qE, qF, qG, qH, hok]
  repeat (refine ⟨(by first | omega | (simp [-gD]; first | done | omega)), ?_⟩)
  refine calls_intro (call_ok0 [] (copySource_ok s hs) ?_ ?_ ?_ ?_ ?_ ?_) ?_
  any_goals (first | omega | (simp [nilL, nilV]; done) | (simp [nilL, nilV, *]; done))
  try simp only [go_sem, qA, qB, qC, qD, qE, qF, qG, qH]
  repeat (refine ⟨(by first | omega | (simp [-gD]; first | done | omega)), ?_⟩)
  try simp only [go_sem, qA, qB, qC, qD, qE, qF, qG, qH]
  repeat (refine ⟨(by first | omega | (simp [-gD]; first | done | omega)), ?_⟩)
  have hf : fair p s rounds = fairF p s (fairK rounds) := by unfold fair; rw [if_pos hok]; rfl
  rw [hf]
  refine loop_intro (ι := Nat) (fun i => .mk [(2, .int .i64 rounds), (3, .ptr 10 0 0), (6, .ptr 12 0 0), (8, .ptr 16 0 0), (9, .int .i64 (fairF p s i).2), (10, .int .i64 i)] [(10, 2, [progC .bw p]), (12, 3, [[.nil, .nil, .nil]]), (16, 3, [sourceC .own (fairF p s i).1])] 17) (fun i => i ≤ fairK rounds) (fun i => fairK rounds - i) 0 (by simp) ?_ ?_
  · refine Sub.trans (Sub.fold1 16 0 13 rfl (by simp [-gD] <;> omega) rfl (by decide) (by decide) rfl) ?_
    simp only [fS, qA, qC]
    refine Sub.trans (Sub.fold1 16 1 14 rfl (by simp [-gD] <;> omega) rfl (by decide) (by decide) rfl) ?_
    simp only [fS, qA, qC]
    refine Sub.trans (Sub.fold1 16 2 15 rfl (by simp [-gD] <;> omega) rfl (by decide) (by decide) rfl) ?_
    simp only [fS, qA, qC]
    refine Sub.shape [] id (by omega) ?_ ?_ ?_ ?_ <;> simp [ints_rep]
    all_goals simp [fairF]
  · intro i hi
    obtain ⟨hso, c0, c1⟩ := fairF_ok hok i
    have hK := fairK_le rounds
    have hlt := @fairK_lt rounds i
    have hthen : i < fairK rounds → (i : Int) < rounds ∧ (i : Int) < 200 := fun h => hlt.2 h
    obtain ⟨t1, t2⟩ := ok_ths hso
    have hnext : fairF p s (i + 1) = fairPart p p.bods.length (fairF p s i) := rfl
    by_cases hc : i < fairK rounds
    · obtain ⟨g1, g2⟩ := hthen hc
      simp only [go_sem, qA, qB, qC, qD, qE, qF, qG, qH, g1, g2]
      repeat (refine ⟨(by first | omega | (simp [-gD]; first | done | omega)), ?_⟩)
      refine loop_intro (ι := Nat) (fun j => .mk [(2, .int .i64 rounds), (3, .ptr 10 0 0), (6, .ptr 12 0 0), (8, .ptr 16 0 0), (9, .int .i64 (fairPart p j (fairF p s i)).2), (10, .int .i64 i), (30, .int .i64 p.bods.length), (31, .int .i64 j)] [(10, 2, [progC .bw p]), (12, 3, [[.nil, .nil, .nil]]), (16, 3, [sourceC .own (fairPart p j (fairF p s i)).1])] 17) (fun j => j ≤ p.bods.length) (fun j => p.bods.length - j) 0 (by simp) ?_ ?_
      · refine Sub.trans (Sub.fold1 16 0 17 rfl (by simp [-gD] <;> omega) rfl (by decide) (by decide) rfl) ?_
        simp only [fS, qA, qC]
        refine Sub.shape [] id (by omega) ?_ ?_ ?_ ?_ <;> simp [ints_rep]
        all_goals simp [fairPart, t1]
      · intro j hj
        obtain ⟨hsj, d0, d1⟩ := fairPart_ok hso c0 c1 j
        have hn2 := fairPart_succ p j (fairF p s i)
        have hss := small_of hsj
        have htr := notesOk_len hsj
        generalize hst : fairPart p j (fairF p s i) = st at hsj d0 d1 hn2 hss htr
        simp only [go_sem, qA, qB, qC, qD, qE, qF, qG, qH]
        refine branch_intro (fun hc2 => ?_) (fun hc2 => ?_)
        · simp only [decide_eq_true_eq] at hc2
          have hj2 : j < p.bods.length := by omega
          simp only [go_sem, qA, qB, qC, qD, qE, qF, qG, qH, wrap_succ (i := j) (by omega)]
          repeat (refine ⟨(by first | omega | (simp [-gD]; first | done | omega)), ?_⟩)
          refine calls_intro (call_ok0 [(0, 16)] (sourceStep_ok p st.1 j hp hss hsj htr) ?_ ?_ ?_ ?_ ?_ ?_) ?_
          any_goals (first | omega | (simp [nilL, nilV]; done) | (simp [nilL, nilV, *]; done))
          try simp only [go_sem, qA, qB, qC, qD, qE, qF, qG, qH]
          repeat (refine ⟨(by first | omega | (simp [-gD]; first | done | omega)), ?_⟩)
          by_cases hcode : (sourceStep p st.1 j).2 = 0
          · have w : IntKind.i64.wrap (st.2 + 1) = st.2 + 1 := wrap64 (by omega) (by omega)
            try simp only [go_sem, qA, qB, qC, qD, qE, qF, qG, qH, hcode, w, wrap_succ (i := j) (by omega)]
            repeat (refine ⟨(by first | omega | (simp [-gD]; first | done | omega)), ?_⟩)
            refine back_intro (j + 1) ?_ hj2 (by omega)
            simp only [hn2, fairOne, hcode]
            refine Sub.shape [] id (by omega) ?_ ?_ ?_ ?_ <;> simp [ints_rep]
          · try simp only [go_sem, qA, qB, qC, qD, qE, qF, qG, qH, hcode, wrap_succ (i := j) (by omega)]
            repeat (refine ⟨(by first | omega | (simp [-gD]; first | done | omega)), ?_⟩)
            refine back_intro (j + 1) ?_ hj2 (by omega)
            simp only [hn2, fairOne, hcode]
            refine Sub.shape [] id (by omega) ?_ ?_ ?_ ?_ <;> simp [ints_rep]
        · simp only [decide_eq_false_iff_not] at hc2
          have hje : j = p.bods.length := by omega
          subst hje
          simp only [go_sem, qA, qB, qC, qD, qE, qF, qG, qH, wrap_succ (i := i) (by omega)]
          repeat (refine ⟨(by first | omega | (simp [-gD]; first | done | omega)), ?_⟩)
          refine back_intro (i + 1) ?_ hc (by omega)
          simp only [hnext, hst]
          refine Sub.shape [] id (by omega) ?_ ?_ ?_ ?_ <;> simp [ints_rep]
    · have hie : i = fairK rounds := by omega
      subst hie
      have hno : ¬ ((fairK rounds : Int) < rounds ∧ (fairK rounds : Int) < 200) := fun h => by have := hlt.1 h; omega
      by_cases g1 : (fairK rounds : Int) < rounds
      · have g2 : ¬ (fairK rounds : Int) < 200 := fun h => hno ⟨g1, h⟩
        simp only [go_sem, qA, qB, qC, qD, qE, qF, qG, qH, g1, g2]
        repeat (refine ⟨(by first | omega | (simp [-gD]; first | done | omega)), ?_⟩)
        apply fin_tup (by simp)
        · exact Sub.refl _
        · simp [-List.drop_one, -gD, ] <;> (first | rfl | exact ⟨rfl, rfl⟩ | exact ⟨rfl, rfl, rfl⟩ | skip)
      · simp only [go_sem, qA, qB, qC, qD, qE, qF, qG, qH, g1]
        repeat (refine ⟨(by first | omega | (simp [-gD]; first | done | omega)), ?_⟩)
        apply fin_tup (by simp)
        · exact Sub.refl _
        · simp [-List.drop_one, -gD, ] <;> (first | rfl | exact ⟨rfl, rfl⟩ | exact ⟨rfl, rfl, rfl⟩ | skip)

set_option maxHeartbeats 8000000 in
theorem specFair_ok (p : Prog) (s : Source) (rounds : Int) (hp : SmallP p) (hs : Small s) : CallOk Try.prog num 146 [.agg (progC .bw p), .agg (sourceC .bw s), .int .i64 rounds] [] (.tup [.agg (sourceC .own (fair p s rounds).1), .int .i64 (fair p s rounds).2]) := by
  refine enter (m := m146) (f := 146) (fn := Try.f64) Try.func64 (by kernel_rfl) rfl c146 rfl (by simp [Try.f64]) (by simp [bnds, bnd, nf_sl, nf_int, nf_bool, nf_str, ints_bnd]) (fun _ _ h => by simp [preH, look] at h) ?_
  unfold m146
  simp only [go_sem, qA, qB, qC, qD, qE, qF, qG, qH]
  repeat (refine ⟨(by first | omega | (simp [-gD]; first | done | omega)), ?_⟩)
  refine calls_intro (call_ok0 [] (specSourceOk_ok p s hp hs) ?_ ?_ ?_ ?_ ?_ ?_) ?_
  any_goals (first | omega | (simp [nilL, nilV]; done) | (simp [nilL, nilV, *]; done))
  try simp only [go_sem, qA, qB, qC, qD, qE, qF, qG, qH]
  repeat (refine ⟨(by first | omega | (simp [-gD]; first | done | omega)), ?_⟩)
  cases hok : sourceOk p s
  · try simp only [go_sem, qA, qB, qC, qD, qE, qF, qG, qH, hok]
    repeat (refine ⟨(by first | omega | (simp [-gD]; first | done | omega)), ?_⟩)
    apply fin_tup (by simp)
    · exact Sub.refl _
    · simp [-List.drop_one, -gD, fair, hok, threads_nil, chans_nil, notes_nil] <;> (first | rfl | exact ⟨rfl, rfl⟩ | exact ⟨rfl, rfl, rfl⟩ | skip)
  try simp only [go_sem, qA, qB, qC, qD, qE, qF, qG, qH, hok]
  repeat (refine ⟨(by first | omega | (simp [-gD]; first | done | omega)), ?_⟩)
  refine calls_intro (call_ok0 [] (l4Copy_ok s hs) ?_ ?_ ?_ ?_ ?_ ?_) ?_
  any_goals (first | omega | (simp [nilL, nilV]; done) | (simp [nilL, nilV, *]; done))
  try simp only [go_sem, qA, qB, qC, qD, qE, qF, qG, qH]
  repeat (refine ⟨(by first | omega | (simp [-gD]; first | done | omega)), ?_⟩)
  try simp only [go_sem, qA, qB, qC, qD, qE, qF, qG, qH]
  repeat (refine ⟨(by first | omega | (simp [-gD]; first | done | omega)), ?_⟩)
  have hf : fair p s rounds = fairF p s (fairK rounds) := by unfold fair; rw [if_pos hok]; rfl
  rw [hf]
  have ht0 := (ok_ths hok).1
  refine loop_intro (ι := Nat) (fun i => .mk [(2, .int .i64 rounds), (3, .ptr 10 0 0), (4, .ptr 11 0 0), (6, .ptr 12 0 0), (8, .ptr 16 0 0), (9, .int .i64 (fairF p s i).2), (10, .int .i64 i)] [(10, 2, [progC .bw p]), (11, 3, [sourceC .bw s]), (12, 3, [[.nil, .nil, .nil]]), (16, 3, [sourceC .own (fairF p s i).1])] 17) (fun i => i ≤ fairK rounds) (fun i => fairK rounds - i) 0 (by simp) ?_ ?_
  · refine Sub.trans (Sub.fold1 16 0 13 rfl (by simp [-gD] <;> omega) rfl (by decide) (by decide) rfl) ?_
    simp only [fS, qA, qC]
    refine Sub.trans (Sub.fold1 16 1 14 rfl (by simp [-gD] <;> omega) rfl (by decide) (by decide) rfl) ?_
    simp only [fS, qA, qC]
    refine Sub.trans (Sub.fold1 16 2 15 rfl (by simp [-gD] <;> omega) rfl (by decide) (by decide) rfl) ?_
    simp only [fS, qA, qC]
    refine Sub.shape [] id (by omega) ?_ ?_ ?_ ?_ <;> simp [ints_rep]
    all_goals simp [fairF]
  · intro i hi
    obtain ⟨hso, c0, c1⟩ := fairF_ok hok i
    have hK := fairK_le rounds
    have hlt := @fairK_lt' rounds i
    obtain ⟨t1, t2⟩ := ok_ths hso
    have hnext : fairF p s (i + 1) = fairPart p p.bods.length (fairF p s i) := rfl
    simp only [go_sem, qA, qB, qC, qD, qE, qF, qG, qH]
    refine calls_intro (call_ok0 [] (l1Min_ok rounds 200) ?_ ?_ ?_ ?_ ?_ ?_) ?_
    any_goals (first | omega | (simp [nilL, nilV]; done) | (simp [nilL, nilV, *]; done))
    try simp only [go_sem, qA, qB, qC, qD, qE, qF, qG, qH]
    repeat (refine ⟨(by first | omega | (simp [-gD]; first | done | omega)), ?_⟩)
    by_cases hc : i < fairK rounds
    · have g1 := hlt.2 hc
      try simp only [go_sem, qA, qB, qC, qD, qE, qF, qG, qH, g1]
      repeat (refine ⟨(by first | omega | (simp [-gD]; first | done | omega)), ?_⟩)
      refine loop_intro (ι := Nat) (fun j => .mk [(2, .int .i64 rounds), (3, .ptr 10 0 0), (4, .ptr 11 0 0), (6, .ptr 12 0 0), (8, .ptr 16 0 0), (9, .int .i64 (fairPart p j (fairF p s i)).2), (10, .int .i64 i), (11, .int .i64 j)] [(10, 2, [progC .bw p]), (11, 3, [sourceC .bw s]), (12, 3, [[.nil, .nil, .nil]]), (16, 3, [sourceC .own (fairPart p j (fairF p s i)).1])] 17) (fun j => j ≤ p.bods.length) (fun j => p.bods.length - j) 0 (by simp) ?_ ?_
      · refine Sub.shape [] id (by omega) ?_ ?_ ?_ ?_ <;> simp [ints_rep]
        all_goals simp [fairPart]
      · intro j hj
        obtain ⟨hsj, d0, d1⟩ := fairPart_ok hso c0 c1 j
        have hn2 := fairPart_succ p j (fairF p s i)
        have hss := small_of hsj
        generalize hst : fairPart p j (fairF p s i) = st at hsj d0 d1 hn2 hss
        by_cases hc2 : (j : Int) < s.ths.length
        · have hj2 : j < p.bods.length := by omega
          have e : specSourceStep p st.1 j = sourceStep p st.1 j := by unfold specSourceStep; rw [if_pos hsj]
          simp only [go_sem, qA, qB, qC, qD, qE, qF, qG, qH, hc2]
          repeat (refine ⟨(by first | omega | (simp [-gD]; first | done | omega)), ?_⟩)
          refine calls_intro (call_ok0 [] (specSourceStep_ok p st.1 j hp hss) ?_ ?_ ?_ ?_ ?_ ?_) ?_
          any_goals (first | omega | (simp [nilL, nilV]; done) | (simp [nilL, nilV, *]; done))
          try simp only [go_sem, qA, qB, qC, qD, qE, qF, qG, qH]
          repeat (refine ⟨(by first | omega | (simp [-gD]; first | done | omega)), ?_⟩)
          by_cases hcode : (sourceStep p st.1 j).2 = 0
          · have w : IntKind.i64.wrap (st.2 + 1) = st.2 + 1 := wrap64 (by omega) (by omega)
            try simp only [go_sem, qA, qB, qC, qD, qE, qF, qG, qH, e, hcode, w, wrap_succ (i := j) (by omega)]
            repeat (refine ⟨(by first | omega | (simp [-gD]; first | done | omega)), ?_⟩)
            refine back_intro (j + 1) ?_ hj2 (by omega)
            simp only [hn2, fairOne, hcode]
            refine Sub.trans (Sub.fold1 16 0 20 rfl (by simp [-gD] <;> omega) rfl (by decide) (by decide) rfl) ?_
            simp only [fS, qA, qC]
            refine Sub.trans (Sub.fold1 16 1 21 rfl (by simp [-gD] <;> omega) rfl (by decide) (by decide) rfl) ?_
            simp only [fS, qA, qC]
            refine Sub.trans (Sub.fold1 16 2 22 rfl (by simp [-gD] <;> omega) rfl (by decide) (by decide) rfl) ?_
            simp only [fS, qA, qC]
            refine Sub.shape [] id (by omega) ?_ ?_ ?_ ?_ <;> simp [ints_rep]
          · try simp only [go_sem, qA, qB, qC, qD, qE, qF, qG, qH, e, hcode, wrap_succ (i := j) (by omega)]
            repeat (refine ⟨(by first | omega | (simp [-gD]; first | done | omega)), ?_⟩)
            refine back_intro (j + 1) ?_ hj2 (by omega)
            simp only [hn2, fairOne, hcode, sourceStep_code hcode]
            refine Sub.trans (Sub.fold1 16 0 17 rfl (by simp [-gD] <;> omega) rfl (by decide) (by decide) rfl) ?_
            simp only [fS, qA, qC]
            refine Sub.trans (Sub.fold1 16 1 18 rfl (by simp [-gD] <;> omega) rfl (by decide) (by decide) rfl) ?_
            simp only [fS, qA, qC]
            refine Sub.trans (Sub.fold1 16 2 19 rfl (by simp [-gD] <;> omega) rfl (by decide) (by decide) rfl) ?_
            simp only [fS, qA, qC]
            refine Sub.shape [] id (by omega) ?_ ?_ ?_ ?_ <;> simp [ints_rep]
        · have hje : j = p.bods.length := by omega
          subst hje
          simp only [go_sem, qA, qB, qC, qD, qE, qF, qG, qH, hc2, wrap_succ (i := i) (by omega)]
          repeat (refine ⟨(by first | omega | (simp [-gD]; first | done | omega)), ?_⟩)
          refine back_intro (i + 1) ?_ hc (by omega)
          simp only [hnext, hst]
          refine Sub.shape [] id (by omega) ?_ ?_ ?_ ?_ <;> simp [ints_rep]
    · have hie : i = fairK rounds := by omega
      subst hie
      have g1 : ¬ (fairK rounds : Int) < (if rounds < 200 then rounds else 200) := fun h => by have := hlt.1 h; omega
      try simp only [go_sem, qA, qB, qC, qD, qE, qF, qG, qH, g1]
      repeat (refine ⟨(by first | omega | (simp [-gD]; first | done | omega)), ?_⟩)
      apply fin_tup (by simp)
      · exact Sub.refl _
      · simp [-List.drop_one, -gD, ] <;> (first | rfl | exact ⟨rfl, rfl⟩ | exact ⟨rfl, rfl, rfl⟩ | skip)

attribute [local simp] sourceMarks
theorem specSourceStep_sz {p : Prog} {s : Source} {who : Int} : SrcSz (specSourceStep p s who).1 5000 := by
  unfold specSourceStep
  split
  · rename_i h
    exact srcSz_ok (sourceStep_keeps who h)
  · exact srcSz_nil

set_option maxHeartbeats 8000000 in
theorem exactSourceStep_ok (p : Prog) (s : Source) (who : Int) (h1 : p.caps.length < 2 ^ 63 ∧ p.bods.length < 2 ^ 63 ∧ ∀ b ∈ p.bods, b.length < 2 ^ 63) (h2 : s.ths.length < 2 ^ 63 ∧ s.chs.length < 2 ^ 63 ∧ s.tr.length < 2 ^ 63 ∧ (∀ t ∈ s.ths, t.regs.length < 2 ^ 63) ∧ (∀ c ∈ s.chs, c.list.length < 2 ^ 63)) :
    CallOk Try.prog num 148 [.agg (progC .bw p), .agg (sourceC .bw s), .int .i64 who] [] (.bool true) := by
  refine enter (m := m148) (f := 148) (fn := Try.f10) Try.func10 (by kernel_rfl) rfl c148 rfl (by simp [Try.f10]) (by simp [bnds, bnd, nf_sl, nf_int, nf_bool, nf_str, ints_bnd]) (fun _ _ h => by simp [preH, look] at h) ?_
  unfold m148
  simp only [go_sem, qA, qB, qC, qD, qE, qF, qG, qH]
  repeat (refine ⟨(by first | omega | (simp [-gD]; first | done | omega)), ?_⟩)
  refine calls_intro (call_ok0 [] (szProg_ok p 1048576 h1.1 h1.2.1 h1.2.2 (by omega) (by omega)) ?_ ?_ ?_ ?_ ?_ ?_) ?_
  any_goals (first | omega | (simp [nilL, nilV]; done) | (simp [nilL, nilV, *]; done))
  try simp only [go_sem, qA, qB, qC, qD, qE, qF, qG, qH]
  repeat (refine ⟨(by first | omega | (simp [-gD]; first | done | omega)), ?_⟩)
  rw [szProg_eq p _ (by omega)]
  refine branch_intro (fun hc => ?_) (fun hc => ?_)
  · simp only [go_sem, qA, qB, qC, qD, qE, qF, qG, qH]
    repeat (refine ⟨(by first | omega | (simp [-gD]; first | done | omega)), ?_⟩)
    refine ⟨_, Sub.refl _, ?_⟩; simp [FinS, nilL, nilV, oneOr, -List.drop_one]
  simp only [decide_eq_false_iff_not] at hc
  have ep := szL_nonneg hc
  have hp := prgSz_of (p := p) (n := 1048576) (by have := szL_ge hc (by omega); omega)
  simp only [go_sem, qA, qB, qC, qD, qE, qF, qG, qH]
  repeat (refine ⟨(by first | omega | (simp [-gD]; first | done | omega)), ?_⟩)
  refine calls_intro (call_ok0 [] (szSource_ok s (szL (wProg p) 1048576) h2.1 h2.2.1 h2.2.2.1 h2.2.2.2.1 h2.2.2.2.2 (by omega) (by omega)) ?_ ?_ ?_ ?_ ?_ ?_) ?_
  any_goals (first | omega | (simp [nilL, nilV]; done) | (simp [nilL, nilV, *]; done))
  try simp only [go_sem, qA, qB, qC, qD, qE, qF, qG, qH]
  repeat (refine ⟨(by first | omega | (simp [-gD]; first | done | omega)), ?_⟩)
  refine branch_intro (fun hc2 => ?_) (fun hc2 => ?_)
  · simp only [go_sem, qA, qB, qC, qD, qE, qF, qG, qH]
    repeat (refine ⟨(by first | omega | (simp [-gD]; first | done | omega)), ?_⟩)
    refine ⟨_, Sub.refl _, ?_⟩; simp [FinS, nilL, nilV, oneOr, -List.drop_one]
  simp only [decide_eq_false_iff_not] at hc2
  have hs := srcSz_of (s := s) (n := 1048576) (by have := szL_ge hc2 (by omega); omega)
  clear ep hc hc2 h1 h2
  obtain ⟨p1, p2, p3, p4⟩ := hp
  obtain ⟨s1, s2, s3, s4, s5, s6⟩ := hs
  have q1 : ∀ b ∈ p.bods, 40 * b.length ≤ 2 ^ 47 := fun b hb => by have := p3 b hb; omega
  have q2 : ∀ b ∈ p.bods, b.length ≤ 2 ^ 47 := fun b hb => by have := p3 b hb; omega
  have q3 : ∀ t ∈ s.ths, 8 * t.regs.length ≤ 2 ^ 47 := fun t ht => by have := s4 t ht; omega
  have q4 : ∀ c ∈ s.chs, 8 * c.list.length ≤ 2 ^ 47 := fun t ht => by have := s5 t ht; omega
  have q5 : ∀ t ∈ s.ths, t.regs.length ≤ 2 ^ 47 := fun t ht => by have := s4 t ht; omega
  have q6 : ∀ c ∈ s.chs, c.list.length ≤ 2 ^ 47 := fun t ht => by have := s5 t ht; omega
  have hpp : SmallP p := ⟨by omega, by omega, fun b hb => by have := p3 b hb; omega⟩
  have hss : Small s := ⟨by omega, by omega, by omega, fun b hb => by have := s4 b hb; omega, fun b hb => by have := s5 b hb; omega⟩
  obtain ⟨w1, w2, w3, w4, w5, w6⟩ := specSourceStep_sz (p := p) (s := s) (who := who)
  have tp := toProg_ok p (by omega) (by omega) q1
  have ts := toSource_ok s (by omega) (by omega) (by omega) q3 q4
  have cs := specSourceStep_ok p s who hpp hss
  have ci := implSourceStep_ok p s who hpp hss
  generalize hw : specSourceStep p s who = w at w1 w2 w3 w4 w5 w6 cs ci
  have q7 : ∀ t ∈ w.1.ths, t.regs.length ≤ 2 ^ 47 := fun t ht => by have := w4 t ht; omega
  have q8 : ∀ c ∈ w.1.chs, c.list.length ≤ 2 ^ 47 := fun t ht => by have := w5 t ht; omega
  have ew := eqSource_ok w.1 w.1 (by omega) (by omega) (by omega) q7 q8
  have ep := eqProg_ok p p (by omega) (by omega) q2
  have es := eqSource_ok s s (by omega) (by omega) (by omega) q5 q6
  have d1 : decide ((1 : Int) + wSource w.1 < 0) = false := by simp; omega
  have d2 : decide ((1 : Int) + p.caps.length + 5 * tot p.bods + wSource s < 0) = false := by simp; omega
  simp only [go_sem, qA, qB, qC, qD, qE, qF, qG, qH]
  repeat (refine ⟨(by first | omega | (simp [-gD]; first | done | omega)), ?_⟩)
  apply join2
  · intro key
    repeat (refine ⟨(by first | omega | (simp [-gD]; first | done | omega)), ?_⟩)
    refine dcall_intro (call_ok0 [] (tp) ?_ ?_ ?_ ?_ ?_ ?_) ?_ ?_
    any_goals (first | omega | (simp [nilL, nilV]; done) | (simp [nilL, nilV, *]; done))
    try simp only [go_sem, qA, qB, qC, qD, qE, qF, qG, qH]
    repeat (refine ⟨(by first | omega | (simp [-gD]; first | done | omega)), ?_⟩)
    refine ⟨?_, ?_⟩
    · repeat (refine ⟨(by first | omega | (simp [-gD]; first | done | omega)), ?_⟩)
      refine dcall_intro (call_ok0 [] (ts) ?_ ?_ ?_ ?_ ?_ ?_) ?_ ?_
      any_goals (first | omega | (simp [nilL, nilV]; done) | (simp [nilL, nilV, *]; done))
      try simp only [go_sem, qA, qB, qC, qD, qE, qF, qG, qH]
      repeat (refine ⟨(by first | omega | (simp [-gD]; first | done | omega)), ?_⟩)
      refine ⟨?_, ?_⟩
      · repeat (refine ⟨(by first | omega | (simp [-gD]; first | done | omega)), ?_⟩)
        refine dcall_intro (call_ok0 [] (cs) ?_ ?_ ?_ ?_ ?_ ?_) ?_ ?_
        any_goals (first | omega | (simp [nilL, nilV]; done) | (simp [nilL, nilV, *]; done))
        try simp only [go_sem, qA, qB, qC, qD, qE, qF, qG, qH]
        repeat (refine ⟨(by first | omega | (simp [-gD]; first | done | omega)), ?_⟩)
        try simp only [go_sem, qA, qB, qC, qD, qE, qF, qG, qH]
        repeat (refine ⟨(by first | omega | (simp [-gD]; first | done | omega)), ?_⟩)
        refine calls_mk (t := [(2, .int .i64 who), (3, .ptr 10 0 0), (4, .ptr 11 0 0), (8, .ptr 12 0 0), (9, .int .i64 w.2), (38, .agg (progC .bw p))]) (h := [(10, 2, [progC .bw p]), (11, 3, [sourceC .bw s]), (12, 3, [sourceC .own w.1])]) (nx := 13) ?_ key.h
        refine Sub.trans (Sub.fold1 20 0 17 rfl (by simp [-gD] <;> omega) rfl (by decide) (by decide) rfl) ?_
        simp only [fS, qA, qC]
        refine Sub.trans (Sub.fold1 20 1 18 rfl (by simp [-gD] <;> omega) rfl (by decide) (by decide) rfl) ?_
        simp only [fS, qA, qC]
        refine Sub.trans (Sub.fold1 20 2 19 rfl (by simp [-gD] <;> omega) rfl (by decide) (by decide) rfl) ?_
        simp only [fS, qA, qC]
        refine Sub.shape [] (fun n => if n = 12 then 20 else n) (by omega) ?_ ?_ ?_ ?_ <;> simp [ints_rep]
      · repeat (refine ⟨(by first | omega | (simp [-gD]; first | done | omega)), ?_⟩)
        refine dcall_intro (call_ok0 [] (cs) ?_ ?_ ?_ ?_ ?_ ?_) ?_ ?_
        any_goals (first | omega | (simp [nilL, nilV]; done) | (simp [nilL, nilV, *]; done))
        try simp only [go_sem, qA, qB, qC, qD, qE, qF, qG, qH]
        repeat (refine ⟨(by first | omega | (simp [-gD]; first | done | omega)), ?_⟩)
        try simp only [go_sem, qA, qB, qC, qD, qE, qF, qG, qH]
        repeat (refine ⟨(by first | omega | (simp [-gD]; first | done | omega)), ?_⟩)
        refine calls_mk (t := [(2, .int .i64 who), (3, .ptr 10 0 0), (4, .ptr 11 0 0), (8, .ptr 12 0 0), (9, .int .i64 w.2), (38, .agg (progC .bw p))]) (h := [(10, 2, [progC .bw p]), (11, 3, [sourceC .bw s]), (12, 3, [sourceC .own w.1])]) (nx := 13) ?_ key.h
        refine Sub.trans (Sub.fold1 17 0 18 rfl (by simp [-gD] <;> omega) rfl (by decide) (by decide) rfl) ?_
        simp only [fS, qA, qC]
        refine Sub.trans (Sub.fold1 17 1 19 rfl (by simp [-gD] <;> omega) rfl (by decide) (by decide) rfl) ?_
        simp only [fS, qA, qC]
        refine Sub.trans (Sub.fold1 17 2 20 rfl (by simp [-gD] <;> omega) rfl (by decide) (by decide) rfl) ?_
        simp only [fS, qA, qC]
        refine Sub.shape [] (fun n => if n = 12 then 17 else n) (by omega) ?_ ?_ ?_ ?_ <;> simp [ints_rep]
    · repeat (refine ⟨(by first | omega | (simp [-gD]; first | done | omega)), ?_⟩)
      refine dcall_intro (call_ok0 [] (ts) ?_ ?_ ?_ ?_ ?_ ?_) ?_ ?_
      any_goals (first | omega | (simp [nilL, nilV]; done) | (simp [nilL, nilV, *]; done))
      try simp only [go_sem, qA, qB, qC, qD, qE, qF, qG, qH]
      repeat (refine ⟨(by first | omega | (simp [-gD]; first | done | omega)), ?_⟩)
      refine dcall_intro (call_ok0 [] (cs) ?_ ?_ ?_ ?_ ?_ ?_) ?_ ?_
      any_goals (first | omega | (simp [nilL, nilV]; done) | (simp [nilL, nilV, *]; done))
      try simp only [go_sem, qA, qB, qC, qD, qE, qF, qG, qH]
      repeat (refine ⟨(by first | omega | (simp [-gD]; first | done | omega)), ?_⟩)
      try simp only [go_sem, qA, qB, qC, qD, qE, qF, qG, qH]
      repeat (refine ⟨(by first | omega | (simp [-gD]; first | done | omega)), ?_⟩)
      refine calls_mk (t := [(2, .int .i64 who), (3, .ptr 10 0 0), (4, .ptr 11 0 0), (8, .ptr 12 0 0), (9, .int .i64 w.2), (38, .agg (progC .bw p))]) (h := [(10, 2, [progC .bw p]), (11, 3, [sourceC .bw s]), (12, 3, [sourceC .own w.1])]) (nx := 13) ?_ key.h
      refine Sub.trans (Sub.fold1 14 0 18 rfl (by simp [-gD] <;> omega) rfl (by decide) (by decide) rfl) ?_
      simp only [fS, qA, qC]
      refine Sub.trans (Sub.fold1 14 1 19 rfl (by simp [-gD] <;> omega) rfl (by decide) (by decide) rfl) ?_
      simp only [fS, qA, qC]
      refine Sub.trans (Sub.fold1 14 2 20 rfl (by simp [-gD] <;> omega) rfl (by decide) (by decide) rfl) ?_
      simp only [fS, qA, qC]
      refine Sub.shape [] (fun n => if n = 12 then 14 else n) (by omega) ?_ ?_ ?_ ?_ <;> simp [ints_rep]
  · intro key
    repeat (refine ⟨(by first | omega | (simp [-gD]; first | done | omega)), ?_⟩)
    refine dcall_intro (call_ok0 [] (tp) ?_ ?_ ?_ ?_ ?_ ?_) ?_ ?_
    any_goals (first | omega | (simp [nilL, nilV]; done) | (simp [nilL, nilV, *]; done))
    try simp only [go_sem, qA, qB, qC, qD, qE, qF, qG, qH]
    repeat (refine ⟨(by first | omega | (simp [-gD]; first | done | omega)), ?_⟩)
    refine dcall_intro (call_ok0 [] (ts) ?_ ?_ ?_ ?_ ?_ ?_) ?_ ?_
    any_goals (first | omega | (simp [nilL, nilV]; done) | (simp [nilL, nilV, *]; done))
    try simp only [go_sem, qA, qB, qC, qD, qE, qF, qG, qH]
    repeat (refine ⟨(by first | omega | (simp [-gD]; first | done | omega)), ?_⟩)
    refine dcall_intro (call_ok0 [] (cs) ?_ ?_ ?_ ?_ ?_ ?_) ?_ ?_
    any_goals (first | omega | (simp [nilL, nilV]; done) | (simp [nilL, nilV, *]; done))
    try simp only [go_sem, qA, qB, qC, qD, qE, qF, qG, qH]
    repeat (refine ⟨(by first | omega | (simp [-gD]; first | done | omega)), ?_⟩)
    try simp only [go_sem, qA, qB, qC, qD, qE, qF, qG, qH]
    repeat (refine ⟨(by first | omega | (simp [-gD]; first | done | omega)), ?_⟩)
    refine calls_mk (t := [(2, .int .i64 who), (3, .ptr 10 0 0), (4, .ptr 11 0 0), (8, .ptr 12 0 0), (9, .int .i64 w.2), (38, .agg (progC .bw p))]) (h := [(10, 2, [progC .bw p]), (11, 3, [sourceC .bw s]), (12, 3, [sourceC .own w.1])]) (nx := 13) ?_ key.h
    refine Sub.trans (Sub.fold1 12 0 18 rfl (by simp [-gD] <;> omega) rfl (by decide) (by decide) rfl) ?_
    simp only [fS, qA, qC]
    refine Sub.trans (Sub.fold1 12 1 19 rfl (by simp [-gD] <;> omega) rfl (by decide) (by decide) rfl) ?_
    simp only [fS, qA, qC]
    refine Sub.trans (Sub.fold1 12 2 20 rfl (by simp [-gD] <;> omega) rfl (by decide) (by decide) rfl) ?_
    simp only [fS, qA, qC]
    refine Sub.shape [] id (by omega) ?_ ?_ ?_ ?_ <;> simp [ints_rep]
  refine calls_intro (call_ok0 [] (tp) ?_ ?_ ?_ ?_ ?_ ?_) ?_
  any_goals (first | omega | (simp [nilL, nilV]; done) | (simp [nilL, nilV, *]; done))
  try simp only [go_sem, qA, qB, qC, qD, qE, qF, qG, qH]
  repeat (refine ⟨(by first | omega | (simp [-gD]; first | done | omega)), ?_⟩)
  refine calls_intro (call_ok0 [] (ts) ?_ ?_ ?_ ?_ ?_ ?_) ?_
  any_goals (first | omega | (simp [nilL, nilV]; done) | (simp [nilL, nilV, *]; done))
  try simp only [go_sem, qA, qB, qC, qD, qE, qF, qG, qH]
  repeat (refine ⟨(by first | omega | (simp [-gD]; first | done | omega)), ?_⟩)
  refine calls_intro (call_ok0 [] (ci) ?_ ?_ ?_ ?_ ?_ ?_) ?_
  any_goals (first | omega | (simp [nilL, nilV]; done) | (simp [nilL, nilV, *]; done))
  try simp only [go_sem, qA, qB, qC, qD, qE, qF, qG, qH]
  repeat (refine ⟨(by first | omega | (simp [-gD]; first | done | omega)), ?_⟩)
  refine calls_intro (call_ok0 [] (ew) ?_ ?_ ?_ ?_ ?_ ?_) ?_
  any_goals (first | omega | (simp [nilL, nilV]; done) | (simp [nilL, nilV, *]; done))
  try simp only [go_sem, qA, qB, qC, qD, qE, qF, qG, qH]
  repeat (refine ⟨(by first | omega | (simp [-gD]; first | done | omega)), ?_⟩)
  try simp only [go_sem, qA, qB, qC, qD, qE, qF, qG, qH]
  repeat (refine ⟨(by first | omega | (simp [-gD]; first | done | omega)), ?_⟩)
  refine dcall_intro (call_ok0 [] (tp) ?_ ?_ ?_ ?_ ?_ ?_) ?_ ?_
  any_goals (first | omega | (simp [nilL, nilV]; done) | (simp [nilL, nilV, *]; done))
  try simp only [go_sem, qA, qB, qC, qD, qE, qF, qG, qH]
  repeat (refine ⟨(by first | omega | (simp [-gD]; first | done | omega)), ?_⟩)
  refine dcall_intro (call_ok0 [] (ep) ?_ ?_ ?_ ?_ ?_ ?_) ?_ ?_
  any_goals (first | omega | (simp [nilL, nilV]; done) | (simp [nilL, nilV, *]; done))
  try simp only [go_sem, qA, qB, qC, qD, qE, qF, qG, qH]
  repeat (refine ⟨(by first | omega | (simp [-gD]; first | done | omega)), ?_⟩)
  try simp only [go_sem, qA, qB, qC, qD, qE, qF, qG, qH]
  repeat (refine ⟨(by first | omega | (simp [-gD]; first | done | omega)), ?_⟩)
  refine dcall_intro (call_ok0 [] (ts) ?_ ?_ ?_ ?_ ?_ ?_) ?_ ?_
  any_goals (first | omega | (simp [nilL, nilV]; done) | (simp [nilL, nilV, *]; done))
  try simp only [go_sem, qA, qB, qC, qD, qE, qF, qG, qH]
  repeat (refine ⟨(by first | omega | (simp [-gD]; first | done | omega)), ?_⟩)
  refine dcall_intro (call_ok0 [] (es) ?_ ?_ ?_ ?_ ?_ ?_) ?_ ?_
  any_goals (first | omega | (simp [nilL, nilV]; done) | (simp [nilL, nilV, *]; done))
  try simp only [go_sem, qA, qB, qC, qD, qE, qF, qG, qH]
  repeat (refine ⟨(by first | omega | (simp [-gD]; first | done | omega)), ?_⟩)
  try simp only [go_sem, qA, qB, qC, qD, qE, qF, qG, qH]
  repeat (refine ⟨(by first | omega | (simp [-gD]; first | done | omega)), ?_⟩)
  refine calls_intro (call_ok0 [(0, 13), (1, 14)] (markProg_ok p 1 (by omega) (by omega) (by omega)) ?_ ?_ ?_ ?_ ?_ ?_) ?_
  any_goals (first | omega | (simp [nilL, nilV]; done) | (simp [nilL, nilV, *]; done))
  try simp only [go_sem, qA, qB, qC, qD, qE, qF, qG, qH]
  repeat (refine ⟨(by first | omega | (simp [-gD]; first | done | omega)), ?_⟩)
  refine calls_intro (call_ok0 [(0, 16), (1, 17), (2, 18)] (markSource_ok s (1 + p.caps.length + 5 * tot p.bods) (by omega) (by omega) (by omega) (by omega) (by omega)) ?_ ?_ ?_ ?_ ?_ ?_) ?_
  any_goals (first | omega | (simp [nilL, nilV]; done) | (simp [nilL, nilV, *]; done))
  try simp only [go_sem, qA, qB, qC, qD, qE, qF, qG, qH]
  repeat (refine ⟨(by first | omega | (simp [-gD]; first | done | omega)), ?_⟩)
  try simp only [go_sem, qA, qB, qC, qD, qE, qF, qG, qH, d2]
  repeat (refine ⟨(by first | omega | (simp [-gD]; first | done | omega)), ?_⟩)
  refine calls_intro (call_ok0 [] (ew) ?_ ?_ ?_ ?_ ?_ ?_) ?_
  any_goals (first | omega | (simp [nilL, nilV]; done) | (simp [nilL, nilV, *]; done))
  try simp only [go_sem, qA, qB, qC, qD, qE, qF, qG, qH]
  repeat (refine ⟨(by first | omega | (simp [-gD]; first | done | omega)), ?_⟩)
  try simp only [go_sem, qA, qB, qC, qD, qE, qF, qG, qH]
  repeat (refine ⟨(by first | omega | (simp [-gD]; first | done | omega)), ?_⟩)
  refine calls_intro (call_ok0 [(0, 20), (1, 21), (2, 22)] (markSource_ok w.1 1 (by omega) (by omega) (by omega) (by omega) (by omega)) ?_ ?_ ?_ ?_ ?_ ?_) ?_
  any_goals (first | omega | (simp [nilL, nilV]; done) | (simp [nilL, nilV, *]; done))
  try simp only [go_sem, qA, qB, qC, qD, qE, qF, qG, qH]
  repeat (refine ⟨(by first | omega | (simp [-gD]; first | done | omega)), ?_⟩)
  try simp only [go_sem, qA, qB, qC, qD, qE, qF, qG, qH]
  repeat (refine ⟨(by first | omega | (simp [-gD]; first | done | omega)), ?_⟩)
  refine calls_intro (call_ok0 [] (heldSource_ok w.1 1 (by omega) (by omega) (by omega) (by omega) (by omega)) ?_ ?_ ?_ ?_ ?_ ?_) ?_
  any_goals (first | omega | (simp [nilL, nilV]; done) | (simp [nilL, nilV, *]; done))
  try simp only [go_sem, qA, qB, qC, qD, qE, qF, qG, qH]
  repeat (refine ⟨(by first | omega | (simp [-gD]; first | done | omega)), ?_⟩)
  try simp only [go_sem, qA, qB, qC, qD, qE, qF, qG, qH, d1]
  repeat (refine ⟨(by first | omega | (simp [-gD]; first | done | omega)), ?_⟩)
  apply join2
  · intro key
    repeat (refine ⟨(by first | omega | (simp [-gD]; first | done | omega)), ?_⟩)
    refine dcall_intro (call_ok0 [] (tp) ?_ ?_ ?_ ?_ ?_ ?_) ?_ ?_
    any_goals (first | omega | (simp [nilL, nilV]; done) | (simp [nilL, nilV, *]; done))
    try simp only [go_sem, qA, qB, qC, qD, qE, qF, qG, qH]
    repeat (refine ⟨(by first | omega | (simp [-gD]; first | done | omega)), ?_⟩)
    refine ⟨?_, ?_⟩
    · repeat (refine ⟨(by first | omega | (simp [-gD]; first | done | omega)), ?_⟩)
      refine dcall_intro (call_ok0 [] (ts) ?_ ?_ ?_ ?_ ?_ ?_) ?_ ?_
      any_goals (first | omega | (simp [nilL, nilV]; done) | (simp [nilL, nilV, *]; done))
      try simp only [go_sem, qA, qB, qC, qD, qE, qF, qG, qH]
      repeat (refine ⟨(by first | omega | (simp [-gD]; first | done | omega)), ?_⟩)
      refine ⟨?_, ?_⟩
      · repeat (refine ⟨(by first | omega | (simp [-gD]; first | done | omega)), ?_⟩)
        refine dcall_intro (call_ok0 [] (ci) ?_ ?_ ?_ ?_ ?_ ?_) ?_ ?_
        any_goals (first | omega | (simp [nilL, nilV]; done) | (simp [nilL, nilV, *]; done))
        try simp only [go_sem, qA, qB, qC, qD, qE, qF, qG, qH]
        repeat (refine ⟨(by first | omega | (simp [-gD]; first | done | omega)), ?_⟩)
        try simp only [go_sem, qA, qB, qC, qD, qE, qF, qG, qH]
        repeat (refine ⟨(by first | omega | (simp [-gD]; first | done | omega)), ?_⟩)
        refine calls_mk (t := [(9, .int .i64 w.2), (12, .ptr 23 0 0), (15, .int .i64 (1 + wSource w.1)), (18, .int .i64 w.2), (107, .agg [.ns 38 0 w.1.ths.length, .ns 39 0 w.1.chs.length, .ns 40 0 w.1.tr.length]), (108, .agg [.ns 24 0 w.1.ths.length, .ns 25 0 w.1.chs.length, .ns 26 0 w.1.tr.length])]) (h := [(23, 3, [sourceC .own (sourceMarks 1 w.1)]), (24, 3, threads .own w.1.ths), (25, 3, chans .own w.1.chs), (26, 2, notes w.1.tr), (38, 3, threads .own w.1.ths), (39, 3, chans .own w.1.chs), (40, 2, notes w.1.tr)]) (nx := 41) ?_ key.h
        refine Sub.trans (Sub.fold1 23 0 20 rfl (by simp [-gD] <;> omega) rfl (by decide) (by decide) rfl) ?_
        simp only [fS, qA, qC, mks_length]
        refine Sub.trans (Sub.fold1 23 1 21 rfl (by simp [-gD] <;> omega) rfl (by decide) (by decide) rfl) ?_
        simp only [fS, qA, qC, mks_length]
        refine Sub.trans (Sub.fold1 23 2 22 rfl (by simp [-gD] <;> omega) rfl (by decide) (by decide) rfl) ?_
        simp only [fS, qA, qC, mks_length]
        refine Sub.shape [] (fun n => if n = 38 then 37 else if n = 39 then 38 else if n = 40 then 39 else n) (by omega) ?_ ?_ ?_ ?_ <;> simp [ints_rep]
      · repeat (refine ⟨(by first | omega | (simp [-gD]; first | done | omega)), ?_⟩)
        refine dcall_intro (call_ok0 [] (ci) ?_ ?_ ?_ ?_ ?_ ?_) ?_ ?_
        any_goals (first | omega | (simp [nilL, nilV]; done) | (simp [nilL, nilV, *]; done))
        try simp only [go_sem, qA, qB, qC, qD, qE, qF, qG, qH]
        repeat (refine ⟨(by first | omega | (simp [-gD]; first | done | omega)), ?_⟩)
        try simp only [go_sem, qA, qB, qC, qD, qE, qF, qG, qH]
        repeat (refine ⟨(by first | omega | (simp [-gD]; first | done | omega)), ?_⟩)
        refine calls_mk (t := [(9, .int .i64 w.2), (12, .ptr 23 0 0), (15, .int .i64 (1 + wSource w.1)), (18, .int .i64 w.2), (107, .agg [.ns 38 0 w.1.ths.length, .ns 39 0 w.1.chs.length, .ns 40 0 w.1.tr.length]), (108, .agg [.ns 24 0 w.1.ths.length, .ns 25 0 w.1.chs.length, .ns 26 0 w.1.tr.length])]) (h := [(23, 3, [sourceC .own (sourceMarks 1 w.1)]), (24, 3, threads .own w.1.ths), (25, 3, chans .own w.1.chs), (26, 2, notes w.1.tr), (38, 3, threads .own w.1.ths), (39, 3, chans .own w.1.chs), (40, 2, notes w.1.tr)]) (nx := 41) ?_ key.h
        refine Sub.trans (Sub.fold1 23 0 20 rfl (by simp [-gD] <;> omega) rfl (by decide) (by decide) rfl) ?_
        simp only [fS, qA, qC, mks_length]
        refine Sub.trans (Sub.fold1 23 1 21 rfl (by simp [-gD] <;> omega) rfl (by decide) (by decide) rfl) ?_
        simp only [fS, qA, qC, mks_length]
        refine Sub.trans (Sub.fold1 23 2 22 rfl (by simp [-gD] <;> omega) rfl (by decide) (by decide) rfl) ?_
        simp only [fS, qA, qC, mks_length]
        refine Sub.shape [] id (by omega) ?_ ?_ ?_ ?_ <;> simp [ints_rep]
    · repeat (refine ⟨(by first | omega | (simp [-gD]; first | done | omega)), ?_⟩)
      refine dcall_intro (call_ok0 [] (ts) ?_ ?_ ?_ ?_ ?_ ?_) ?_ ?_
      any_goals (first | omega | (simp [nilL, nilV]; done) | (simp [nilL, nilV, *]; done))
      try simp only [go_sem, qA, qB, qC, qD, qE, qF, qG, qH]
      repeat (refine ⟨(by first | omega | (simp [-gD]; first | done | omega)), ?_⟩)
      refine dcall_intro (call_ok0 [] (ci) ?_ ?_ ?_ ?_ ?_ ?_) ?_ ?_
      any_goals (first | omega | (simp [nilL, nilV]; done) | (simp [nilL, nilV, *]; done))
      try simp only [go_sem, qA, qB, qC, qD, qE, qF, qG, qH]
      repeat (refine ⟨(by first | omega | (simp [-gD]; first | done | omega)), ?_⟩)
      try simp only [go_sem, qA, qB, qC, qD, qE, qF, qG, qH]
      repeat (refine ⟨(by first | omega | (simp [-gD]; first | done | omega)), ?_⟩)
      refine calls_mk (t := [(9, .int .i64 w.2), (12, .ptr 23 0 0), (15, .int .i64 (1 + wSource w.1)), (18, .int .i64 w.2), (107, .agg [.ns 38 0 w.1.ths.length, .ns 39 0 w.1.chs.length, .ns 40 0 w.1.tr.length]), (108, .agg [.ns 24 0 w.1.ths.length, .ns 25 0 w.1.chs.length, .ns 26 0 w.1.tr.length])]) (h := [(23, 3, [sourceC .own (sourceMarks 1 w.1)]), (24, 3, threads .own w.1.ths), (25, 3, chans .own w.1.chs), (26, 2, notes w.1.tr), (38, 3, threads .own w.1.ths), (39, 3, chans .own w.1.chs), (40, 2, notes w.1.tr)]) (nx := 41) ?_ key.h
      refine Sub.trans (Sub.fold1 23 0 20 rfl (by simp [-gD] <;> omega) rfl (by decide) (by decide) rfl) ?_
      simp only [fS, qA, qC, mks_length]
      refine Sub.trans (Sub.fold1 23 1 21 rfl (by simp [-gD] <;> omega) rfl (by decide) (by decide) rfl) ?_
      simp only [fS, qA, qC, mks_length]
      refine Sub.trans (Sub.fold1 23 2 22 rfl (by simp [-gD] <;> omega) rfl (by decide) (by decide) rfl) ?_
      simp only [fS, qA, qC, mks_length]
      refine Sub.shape [] id (by omega) ?_ ?_ ?_ ?_ <;> simp [ints_rep]
  · intro key
    repeat (refine ⟨(by first | omega | (simp [-gD]; first | done | omega)), ?_⟩)
    refine dcall_intro (call_ok0 [] (tp) ?_ ?_ ?_ ?_ ?_ ?_) ?_ ?_
    any_goals (first | omega | (simp [nilL, nilV]; done) | (simp [nilL, nilV, *]; done))
    try simp only [go_sem, qA, qB, qC, qD, qE, qF, qG, qH]
    repeat (refine ⟨(by first | omega | (simp [-gD]; first | done | omega)), ?_⟩)
    refine dcall_intro (call_ok0 [] (ts) ?_ ?_ ?_ ?_ ?_ ?_) ?_ ?_
    any_goals (first | omega | (simp [nilL, nilV]; done) | (simp [nilL, nilV, *]; done))
    try simp only [go_sem, qA, qB, qC, qD, qE, qF, qG, qH]
    repeat (refine ⟨(by first | omega | (simp [-gD]; first | done | omega)), ?_⟩)
    refine dcall_intro (call_ok0 [] (ci) ?_ ?_ ?_ ?_ ?_ ?_) ?_ ?_
    any_goals (first | omega | (simp [nilL, nilV]; done) | (simp [nilL, nilV, *]; done))
    try simp only [go_sem, qA, qB, qC, qD, qE, qF, qG, qH]
    repeat (refine ⟨(by first | omega | (simp [-gD]; first | done | omega)), ?_⟩)
    try simp only [go_sem, qA, qB, qC, qD, qE, qF, qG, qH]
    repeat (refine ⟨(by first | omega | (simp [-gD]; first | done | omega)), ?_⟩)
    refine calls_mk (t := [(9, .int .i64 w.2), (12, .ptr 23 0 0), (15, .int .i64 (1 + wSource w.1)), (18, .int .i64 w.2), (107, .agg [.ns 38 0 w.1.ths.length, .ns 39 0 w.1.chs.length, .ns 40 0 w.1.tr.length]), (108, .agg [.ns 24 0 w.1.ths.length, .ns 25 0 w.1.chs.length, .ns 26 0 w.1.tr.length])]) (h := [(23, 3, [sourceC .own (sourceMarks 1 w.1)]), (24, 3, threads .own w.1.ths), (25, 3, chans .own w.1.chs), (26, 2, notes w.1.tr), (38, 3, threads .own w.1.ths), (39, 3, chans .own w.1.chs), (40, 2, notes w.1.tr)]) (nx := 41) ?_ key.h
    refine Sub.trans (Sub.fold1 23 0 20 rfl (by simp [-gD] <;> omega) rfl (by decide) (by decide) rfl) ?_
    simp only [fS, qA, qC, mks_length]
    refine Sub.trans (Sub.fold1 23 1 21 rfl (by simp [-gD] <;> omega) rfl (by decide) (by decide) rfl) ?_
    simp only [fS, qA, qC, mks_length]
    refine Sub.trans (Sub.fold1 23 2 22 rfl (by simp [-gD] <;> omega) rfl (by decide) (by decide) rfl) ?_
    simp only [fS, qA, qC, mks_length]
    refine Sub.shape [] id (by omega) ?_ ?_ ?_ ?_ <;> simp [ints_rep]
  refine calls_intro (call_ok0 [] (ew) ?_ ?_ ?_ ?_ ?_ ?_) ?_
  any_goals (first | omega | (simp [nilL, nilV]; done) | (simp [nilL, nilV, *]; done))
  try simp only [go_sem, qA, qB, qC, qD, qE, qF, qG, qH]
  repeat (refine ⟨(by first | omega | (simp [-gD]; first | done | omega)), ?_⟩)
  try simp only [go_sem, qA, qB, qC, qD, qE, qF, qG, qH]
  repeat (refine ⟨(by first | omega | (simp [-gD]; first | done | omega)), ?_⟩)
  refine calls_intro (call_ok0 [] (heldSource_ok w.1 1 (by omega) (by omega) (by omega) (by omega) (by omega)) ?_ ?_ ?_ ?_ ?_ ?_) ?_
  any_goals (first | omega | (simp [nilL, nilV]; done) | (simp [nilL, nilV, *]; done))
  try simp only [go_sem, qA, qB, qC, qD, qE, qF, qG, qH]
  repeat (refine ⟨(by first | omega | (simp [-gD]; first | done | omega)), ?_⟩)
  try simp only [go_sem, qA, qB, qC, qD, qE, qF, qG, qH, d1]
  repeat (refine ⟨(by first | omega | (simp [-gD]; first | done | omega)), ?_⟩)
  refine ⟨_, Sub.refl _, ?_⟩; simp [FinS, nilL, nilV, oneOr, -List.drop_one]

attribute [local simp] sourceMarks
theorem fair_sz {p : Prog} {s : Source} {r : Int} : SrcSz (fair p s r).1 5000 := by
  unfold fair
  split
  · rename_i h
    exact srcSz_ok (fairF_ok h _).1
  · exact srcSz_nil

set_option maxHeartbeats 8000000 in
theorem exactFair_ok (p : Prog) (s : Source) (who : Int) (h1 : p.caps.length < 2 ^ 63 ∧ p.bods.length < 2 ^ 63 ∧ ∀ b ∈ p.bods, b.length < 2 ^ 63) (h2 : s.ths.length < 2 ^ 63 ∧ s.chs.length < 2 ^ 63 ∧ s.tr.length < 2 ^ 63 ∧ (∀ t ∈ s.ths, t.regs.length < 2 ^ 63) ∧ (∀ c ∈ s.chs, c.list.length < 2 ^ 63)) :
    CallOk Try.prog num 150 [.agg (progC .bw p), .agg (sourceC .bw s), .int .i64 who] [] (.bool true) := by
  refine enter (m := m150) (f := 150) (fn := Try.f13) Try.func13 (by kernel_rfl) rfl c150 rfl (by simp [Try.f13]) (by simp [bnds, bnd, nf_sl, nf_int, nf_bool, nf_str, ints_bnd]) (fun _ _ h => by simp [preH, look] at h) ?_
  unfold m150
  simp only [go_sem, qA, qB, qC, qD, qE, qF, qG, qH]
  repeat (refine ⟨(by first | omega | (simp [-gD]; first | done | omega)), ?_⟩)
  refine calls_intro (call_ok0 [] (szProg_ok p 1048576 h1.1 h1.2.1 h1.2.2 (by omega) (by omega)) ?_ ?_ ?_ ?_ ?_ ?_) ?_
  any_goals (first | omega | (simp [nilL, nilV]; done) | (simp [nilL, nilV, *]; done))
  try simp only [go_sem, qA, qB, qC, qD, qE, qF, qG, qH]
  repeat (refine ⟨(by first | omega | (simp [-gD]; first | done | omega)), ?_⟩)
  rw [szProg_eq p _ (by omega)]
  refine branch_intro (fun hc => ?_) (fun hc => ?_)
  · simp only [go_sem, qA, qB, qC, qD, qE, qF, qG, qH]
    repeat (refine ⟨(by first | omega | (simp [-gD]; first | done | omega)), ?_⟩)
    refine ⟨_, Sub.refl _, ?_⟩; simp [FinS, nilL, nilV, oneOr, -List.drop_one]
  simp only [decide_eq_false_iff_not] at hc
  have ep := szL_nonneg hc
  have hp := prgSz_of (p := p) (n := 1048576) (by have := szL_ge hc (by omega); omega)
  simp only [go_sem, qA, qB, qC, qD, qE, qF, qG, qH]
  repeat (refine ⟨(by first | omega | (simp [-gD]; first | done | omega)), ?_⟩)
  refine calls_intro (call_ok0 [] (szSource_ok s (szL (wProg p) 1048576) h2.1 h2.2.1 h2.2.2.1 h2.2.2.2.1 h2.2.2.2.2 (by omega) (by omega)) ?_ ?_ ?_ ?_ ?_ ?_) ?_
  any_goals (first | omega | (simp [nilL, nilV]; done) | (simp [nilL, nilV, *]; done))
  try simp only [go_sem, qA, qB, qC, qD, qE, qF, qG, qH]
  repeat (refine ⟨(by first | omega | (simp [-gD]; first | done | omega)), ?_⟩)
  refine branch_intro (fun hc2 => ?_) (fun hc2 => ?_)
  · simp only [go_sem, qA, qB, qC, qD, qE, qF, qG, qH]
    repeat (refine ⟨(by first | omega | (simp [-gD]; first | done | omega)), ?_⟩)
    refine ⟨_, Sub.refl _, ?_⟩; simp [FinS, nilL, nilV, oneOr, -List.drop_one]
  simp only [decide_eq_false_iff_not] at hc2
  have hs := srcSz_of (s := s) (n := 1048576) (by have := szL_ge hc2 (by omega); omega)
  clear ep hc hc2 h1 h2
  obtain ⟨p1, p2, p3, p4⟩ := hp
  obtain ⟨s1, s2, s3, s4, s5, s6⟩ := hs
  have q1 : ∀ b ∈ p.bods, 40 * b.length ≤ 2 ^ 47 := fun b hb => by have := p3 b hb; omega
  have q2 : ∀ b ∈ p.bods, b.length ≤ 2 ^ 47 := fun b hb => by have := p3 b hb; omega
  have q3 : ∀ t ∈ s.ths, 8 * t.regs.length ≤ 2 ^ 47 := fun t ht => by have := s4 t ht; omega
  have q4 : ∀ c ∈ s.chs, 8 * c.list.length ≤ 2 ^ 47 := fun t ht => by have := s5 t ht; omega
  have q5 : ∀ t ∈ s.ths, t.regs.length ≤ 2 ^ 47 := fun t ht => by have := s4 t ht; omega
  have q6 : ∀ c ∈ s.chs, c.list.length ≤ 2 ^ 47 := fun t ht => by have := s5 t ht; omega
  have hpp : SmallP p := ⟨by omega, by omega, fun b hb => by have := p3 b hb; omega⟩
  have hss : Small s := ⟨by omega, by omega, by omega, fun b hb => by have := s4 b hb; omega, fun b hb => by have := s5 b hb; omega⟩
  obtain ⟨w1, w2, w3, w4, w5, w6⟩ := fair_sz (p := p) (s := s) (r := who)
  have tp := toProg_ok p (by omega) (by omega) q1
  have ts := toSource_ok s (by omega) (by omega) (by omega) q3 q4
  have cs := specFair_ok p s who hpp hss
  have ci := implFair_ok p s who hpp hss
  generalize hw : fair p s who = w at w1 w2 w3 w4 w5 w6 cs ci
  have q7 : ∀ t ∈ w.1.ths, t.regs.length ≤ 2 ^ 47 := fun t ht => by have := w4 t ht; omega
  have q8 : ∀ c ∈ w.1.chs, c.list.length ≤ 2 ^ 47 := fun t ht => by have := w5 t ht; omega
  have ew := eqSource_ok w.1 w.1 (by omega) (by omega) (by omega) q7 q8
  have ep := eqProg_ok p p (by omega) (by omega) q2
  have es := eqSource_ok s s (by omega) (by omega) (by omega) q5 q6
  have d1 : decide ((1 : Int) + wSource w.1 < 0) = false := by simp; omega
  have d2 : decide ((1 : Int) + p.caps.length + 5 * tot p.bods + wSource s < 0) = false := by simp; omega
  simp only [go_sem, qA, qB, qC, qD, qE, qF, qG, qH]
  repeat (refine ⟨(by first | omega | (simp [-gD]; first | done | omega)), ?_⟩)
  apply join2
  · intro key
    repeat (refine ⟨(by first | omega | (simp [-gD]; first | done | omega)), ?_⟩)
    refine dcall_intro (call_ok0 [] (tp) ?_ ?_ ?_ ?_ ?_ ?_) ?_ ?_
    any_goals (first | omega | (simp [nilL, nilV]; done) | (simp [nilL, nilV, *]; done))
    try simp only [go_sem, qA, qB, qC, qD, qE, qF, qG, qH]
    repeat (refine ⟨(by first | omega | (simp [-gD]; first | done | omega)), ?_⟩)
    refine ⟨?_, ?_⟩
    · repeat (refine ⟨(by first | omega | (simp [-gD]; first | done | omega)), ?_⟩)
      refine dcall_intro (call_ok0 [] (ts) ?_ ?_ ?_ ?_ ?_ ?_) ?_ ?_
      any_goals (first | omega | (simp [nilL, nilV]; done) | (simp [nilL, nilV, *]; done))
      try simp only [go_sem, qA, qB, qC, qD, qE, qF, qG, qH]
      repeat (refine ⟨(by first | omega | (simp [-gD]; first | done | omega)), ?_⟩)
      refine ⟨?_, ?_⟩
      · repeat (refine ⟨(by first | omega | (simp [-gD]; first | done | omega)), ?_⟩)
        refine dcall_intro (call_ok0 [] (cs) ?_ ?_ ?_ ?_ ?_ ?_) ?_ ?_
        any_goals (first | omega | (simp [nilL, nilV]; done) | (simp [nilL, nilV, *]; done))
        try simp only [go_sem, qA, qB, qC, qD, qE, qF, qG, qH]
        repeat (refine ⟨(by first | omega | (simp [-gD]; first | done | omega)), ?_⟩)
        try simp only [go_sem, qA, qB, qC, qD, qE, qF, qG, qH]
        repeat (refine ⟨(by first | omega | (simp [-gD]; first | done | omega)), ?_⟩)
        refine calls_mk (t := [(2, .int .i64 who), (3, .ptr 10 0 0), (4, .ptr 11 0 0), (8, .ptr 12 0 0), (9, .int .i64 w.2), (38, .agg (progC .bw p))]) (h := [(10, 2, [progC .bw p]), (11, 3, [sourceC .bw s]), (12, 3, [sourceC .own w.1])]) (nx := 13) ?_ key.h
        refine Sub.trans (Sub.fold1 20 0 17 rfl (by simp [-gD] <;> omega) rfl (by decide) (by decide) rfl) ?_
        simp only [fS, qA, qC]
        refine Sub.trans (Sub.fold1 20 1 18 rfl (by simp [-gD] <;> omega) rfl (by decide) (by decide) rfl) ?_
        simp only [fS, qA, qC]
        refine Sub.trans (Sub.fold1 20 2 19 rfl (by simp [-gD] <;> omega) rfl (by decide) (by decide) rfl) ?_
        simp only [fS, qA, qC]
        refine Sub.shape [] (fun n => if n = 12 then 20 else n) (by omega) ?_ ?_ ?_ ?_ <;> simp [ints_rep]
      · repeat (refine ⟨(by first | omega | (simp [-gD]; first | done | omega)), ?_⟩)
        refine dcall_intro (call_ok0 [] (cs) ?_ ?_ ?_ ?_ ?_ ?_) ?_ ?_
        any_goals (first | omega | (simp [nilL, nilV]; done) | (simp [nilL, nilV, *]; done))
        try simp only [go_sem, qA, qB, qC, qD, qE, qF, qG, qH]
        repeat (refine ⟨(by first | omega | (simp [-gD]; first | done | omega)), ?_⟩)
        try simp only [go_sem, qA, qB, qC, qD, qE, qF, qG, qH]
        repeat (refine ⟨(by first | omega | (simp [-gD]; first | done | omega)), ?_⟩)
        refine calls_mk (t := [(2, .int .i64 who), (3, .ptr 10 0 0), (4, .ptr 11 0 0), (8, .ptr 12 0 0), (9, .int .i64 w.2), (38, .agg (progC .bw p))]) (h := [(10, 2, [progC .bw p]), (11, 3, [sourceC .bw s]), (12, 3, [sourceC .own w.1])]) (nx := 13) ?_ key.h
        refine Sub.trans (Sub.fold1 17 0 18 rfl (by simp [-gD] <;> omega) rfl (by decide) (by decide) rfl) ?_
        simp only [fS, qA, qC]
        refine Sub.trans (Sub.fold1 17 1 19 rfl (by simp [-gD] <;> omega) rfl (by decide) (by decide) rfl) ?_
        simp only [fS, qA, qC]
        refine Sub.trans (Sub.fold1 17 2 20 rfl (by simp [-gD] <;> omega) rfl (by decide) (by decide) rfl) ?_
        simp only [fS, qA, qC]
        refine Sub.shape [] (fun n => if n = 12 then 17 else n) (by omega) ?_ ?_ ?_ ?_ <;> simp [ints_rep]
    · repeat (refine ⟨(by first | omega | (simp [-gD]; first | done | omega)), ?_⟩)
      refine dcall_intro (call_ok0 [] (ts) ?_ ?_ ?_ ?_ ?_ ?_) ?_ ?_
      any_goals (first | omega | (simp [nilL, nilV]; done) | (simp [nilL, nilV, *]; done))
      try simp only [go_sem, qA, qB, qC, qD, qE, qF, qG, qH]
      repeat (refine ⟨(by first | omega | (simp [-gD]; first | done | omega)), ?_⟩)
      refine dcall_intro (call_ok0 [] (cs) ?_ ?_ ?_ ?_ ?_ ?_) ?_ ?_
      any_goals (first | omega | (simp [nilL, nilV]; done) | (simp [nilL, nilV, *]; done))
      try simp only [go_sem, qA, qB, qC, qD, qE, qF, qG, qH]
      repeat (refine ⟨(by first | omega | (simp [-gD]; first | done | omega)), ?_⟩)
      try simp only [go_sem, qA, qB, qC, qD, qE, qF, qG, qH]
      repeat (refine ⟨(by first | omega | (simp [-gD]; first | done | omega)), ?_⟩)
      refine calls_mk (t := [(2, .int .i64 who), (3, .ptr 10 0 0), (4, .ptr 11 0 0), (8, .ptr 12 0 0), (9, .int .i64 w.2), (38, .agg (progC .bw p))]) (h := [(10, 2, [progC .bw p]), (11, 3, [sourceC .bw s]), (12, 3, [sourceC .own w.1])]) (nx := 13) ?_ key.h
      refine Sub.trans (Sub.fold1 14 0 18 rfl (by simp [-gD] <;> omega) rfl (by decide) (by decide) rfl) ?_
      simp only [fS, qA, qC]
      refine Sub.trans (Sub.fold1 14 1 19 rfl (by simp [-gD] <;> omega) rfl (by decide) (by decide) rfl) ?_
      simp only [fS, qA, qC]
      refine Sub.trans (Sub.fold1 14 2 20 rfl (by simp [-gD] <;> omega) rfl (by decide) (by decide) rfl) ?_
      simp only [fS, qA, qC]
      refine Sub.shape [] (fun n => if n = 12 then 14 else n) (by omega) ?_ ?_ ?_ ?_ <;> simp [ints_rep]
  · intro key
    repeat (refine ⟨(by first | omega | (simp [-gD]; first | done | omega)), ?_⟩)
    refine dcall_intro (call_ok0 [] (tp) ?_ ?_ ?_ ?_ ?_ ?_) ?_ ?_
    any_goals (first | omega | (simp [nilL, nilV]; done) | (simp [nilL, nilV, *]; done))
    try simp only [go_sem, qA, qB, qC, qD, qE, qF, qG, qH]
    repeat (refine ⟨(by first | omega | (simp [-gD]; first | done | omega)), ?_⟩)
    refine dcall_intro (call_ok0 [] (ts) ?_ ?_ ?_ ?_ ?_ ?_) ?_ ?_
    any_goals (first | omega | (simp [nilL, nilV]; done) | (simp [nilL, nilV, *]; done))
    try simp only [go_sem, qA, qB, qC, qD, qE, qF, qG, qH]
    repeat (refine ⟨(by first | omega | (simp [-gD]; first | done | omega)), ?_⟩)
    refine dcall_intro (call_ok0 [] (cs) ?_ ?_ ?_ ?_ ?_ ?_) ?_ ?_
    any_goals (first | omega | (simp [nilL, nilV]; done) | (simp [nilL, nilV, *]; done))
    try simp only [go_sem, qA, qB, qC, qD, qE, qF, qG, qH]
    repeat (refine ⟨(by first | omega | (simp [-gD]; first | done | omega)), ?_⟩)
    try simp only [go_sem, qA, qB, qC, qD, qE, qF, qG, qH]
    repeat (refine ⟨(by first | omega | (simp [-gD]; first | done | omega)), ?_⟩)
    refine calls_mk (t := [(2, .int .i64 who), (3, .ptr 10 0 0), (4, .ptr 11 0 0), (8, .ptr 12 0 0), (9, .int .i64 w.2), (38, .agg (progC .bw p))]) (h := [(10, 2, [progC .bw p]), (11, 3, [sourceC .bw s]), (12, 3, [sourceC .own w.1])]) (nx := 13) ?_ key.h
    refine Sub.trans (Sub.fold1 12 0 18 rfl (by simp [-gD] <;> omega) rfl (by decide) (by decide) rfl) ?_
    simp only [fS, qA, qC]
    refine Sub.trans (Sub.fold1 12 1 19 rfl (by simp [-gD] <;> omega) rfl (by decide) (by decide) rfl) ?_
    simp only [fS, qA, qC]
    refine Sub.trans (Sub.fold1 12 2 20 rfl (by simp [-gD] <;> omega) rfl (by decide) (by decide) rfl) ?_
    simp only [fS, qA, qC]
    refine Sub.shape [] id (by omega) ?_ ?_ ?_ ?_ <;> simp [ints_rep]
  refine calls_intro (call_ok0 [] (tp) ?_ ?_ ?_ ?_ ?_ ?_) ?_
  any_goals (first | omega | (simp [nilL, nilV]; done) | (simp [nilL, nilV, *]; done))
  try simp only [go_sem, qA, qB, qC, qD, qE, qF, qG, qH]
  repeat (refine ⟨(by first | omega | (simp [-gD]; first | done | omega)), ?_⟩)
  refine calls_intro (call_ok0 [] (ts) ?_ ?_ ?_ ?_ ?_ ?_) ?_
  any_goals (first | omega | (simp [nilL, nilV]; done) | (simp [nilL, nilV, *]; done))
  try simp only [go_sem, qA, qB, qC, qD, qE, qF, qG, qH]
  repeat (refine ⟨(by first | omega | (simp [-gD]; first | done | omega)), ?_⟩)
  refine calls_intro (call_ok0 [] (ci) ?_ ?_ ?_ ?_ ?_ ?_) ?_
  any_goals (first | omega | (simp [nilL, nilV]; done) | (simp [nilL, nilV, *]; done))
  try simp only [go_sem, qA, qB, qC, qD, qE, qF, qG, qH]
  repeat (refine ⟨(by first | omega | (simp [-gD]; first | done | omega)), ?_⟩)
  refine calls_intro (call_ok0 [] (ew) ?_ ?_ ?_ ?_ ?_ ?_) ?_
  any_goals (first | omega | (simp [nilL, nilV]; done) | (simp [nilL, nilV, *]; done))
  try simp only [go_sem, qA, qB, qC, qD, qE, qF, qG, qH]
  repeat (refine ⟨(by first | omega | (simp [-gD]; first | done | omega)), ?_⟩)
  try simp only [go_sem, qA, qB, qC, qD, qE, qF, qG, qH]
  repeat (refine ⟨(by first | omega | (simp [-gD]; first | done | omega)), ?_⟩)
  refine dcall_intro (call_ok0 [] (tp) ?_ ?_ ?_ ?_ ?_ ?_) ?_ ?_
  any_goals (first | omega | (simp [nilL, nilV]; done) | (simp [nilL, nilV, *]; done))
  try simp only [go_sem, qA, qB, qC, qD, qE, qF, qG, qH]
  repeat (refine ⟨(by first | omega | (simp [-gD]; first | done | omega)), ?_⟩)
  refine dcall_intro (call_ok0 [] (ep) ?_ ?_ ?_ ?_ ?_ ?_) ?_ ?_
  any_goals (first | omega | (simp [nilL, nilV]; done) | (simp [nilL, nilV, *]; done))
  try simp only [go_sem, qA, qB, qC, qD, qE, qF, qG, qH]
  repeat (refine ⟨(by first | omega | (simp [-gD]; first | done | omega)), ?_⟩)
  try simp only [go_sem, qA, qB, qC, qD, qE, qF, qG, qH]
  repeat (refine ⟨(by first | omega | (simp [-gD]; first | done | omega)), ?_⟩)
  refine dcall_intro (call_ok0 [] (ts) ?_ ?_ ?_ ?_ ?_ ?_) ?_ ?_
  any_goals (first | omega | (simp [nilL, nilV]; done) | (simp [nilL, nilV, *]; done))
  try simp only [go_sem, qA, qB, qC, qD, qE, qF, qG, qH]
  repeat (refine ⟨(by first | omega | (simp [-gD]; first | done | omega)), ?_⟩)
  refine dcall_intro (call_ok0 [] (es) ?_ ?_ ?_ ?_ ?_ ?_) ?_ ?_
  any_goals (first | omega | (simp [nilL, nilV]; done) | (simp [nilL, nilV, *]; done))
  try simp only [go_sem, qA, qB, qC, qD, qE, qF, qG, qH]
  repeat (refine ⟨(by first | omega | (simp [-gD]; first | done | omega)), ?_⟩)
  try simp only [go_sem, qA, qB, qC, qD, qE, qF, qG, qH]
  repeat (refine ⟨(by first | omega | (simp [-gD]; first | done | omega)), ?_⟩)
  refine calls_intro (call_ok0 [(0, 13), (1, 14)] (markProg_ok p 1 (by omega) (by omega) (by omega)) ?_ ?_ ?_ ?_ ?_ ?_) ?_
  any_goals (first | omega | (simp [nilL, nilV]; done) | (simp [nilL, nilV, *]; done))
  try simp only [go_sem, qA, qB, qC, qD, qE, qF, qG, qH]
  repeat (refine ⟨(by first | omega | (simp [-gD]; first | done | omega)), ?_⟩)
  refine calls_intro (call_ok0 [(0, 16), (1, 17), (2, 18)] (markSource_ok s (1 + p.caps.length + 5 * tot p.bods) (by omega) (by omega) (by omega) (by omega) (by omega)) ?_ ?_ ?_ ?_ ?_ ?_) ?_
  any_goals (first | omega | (simp [nilL, nilV]; done) | (simp [nilL, nilV, *]; done))
  try simp only [go_sem, qA, qB, qC, qD, qE, qF, qG, qH]
  repeat (refine ⟨(by first | omega | (simp [-gD]; first | done | omega)), ?_⟩)
  try simp only [go_sem, qA, qB, qC, qD, qE, qF, qG, qH, d2]
  repeat (refine ⟨(by first | omega | (simp [-gD]; first | done | omega)), ?_⟩)
  refine calls_intro (call_ok0 [] (ew) ?_ ?_ ?_ ?_ ?_ ?_) ?_
  any_goals (first | omega | (simp [nilL, nilV]; done) | (simp [nilL, nilV, *]; done))
  try simp only [go_sem, qA, qB, qC, qD, qE, qF, qG, qH]
  repeat (refine ⟨(by first | omega | (simp [-gD]; first | done | omega)), ?_⟩)
  try simp only [go_sem, qA, qB, qC, qD, qE, qF, qG, qH]
  repeat (refine ⟨(by first | omega | (simp [-gD]; first | done | omega)), ?_⟩)
  refine calls_intro (call_ok0 [(0, 20), (1, 21), (2, 22)] (markSource_ok w.1 1 (by omega) (by omega) (by omega) (by omega) (by omega)) ?_ ?_ ?_ ?_ ?_ ?_) ?_
  any_goals (first | omega | (simp [nilL, nilV]; done) | (simp [nilL, nilV, *]; done))
  try simp only [go_sem, qA, qB, qC, qD, qE, qF, qG, qH]
  repeat (refine ⟨(by first | omega | (simp [-gD]; first | done | omega)), ?_⟩)
  try simp only [go_sem, qA, qB, qC, qD, qE, qF, qG, qH]
  repeat (refine ⟨(by first | omega | (simp [-gD]; first | done | omega)), ?_⟩)
  refine calls_intro (call_ok0 [] (heldSource_ok w.1 1 (by omega) (by omega) (by omega) (by omega) (by omega)) ?_ ?_ ?_ ?_ ?_ ?_) ?_
  any_goals (first | omega | (simp [nilL, nilV]; done) | (simp [nilL, nilV, *]; done))
  try simp only [go_sem, qA, qB, qC, qD, qE, qF, qG, qH]
  repeat (refine ⟨(by first | omega | (simp [-gD]; first | done | omega)), ?_⟩)
  try simp only [go_sem, qA, qB, qC, qD, qE, qF, qG, qH, d1]
  repeat (refine ⟨(by first | omega | (simp [-gD]; first | done | omega)), ?_⟩)
  apply join2
  · intro key
    repeat (refine ⟨(by first | omega | (simp [-gD]; first | done | omega)), ?_⟩)
    refine dcall_intro (call_ok0 [] (tp) ?_ ?_ ?_ ?_ ?_ ?_) ?_ ?_
    any_goals (first | omega | (simp [nilL, nilV]; done) | (simp [nilL, nilV, *]; done))
    try simp only [go_sem, qA, qB, qC, qD, qE, qF, qG, qH]
    repeat (refine ⟨(by first | omega | (simp [-gD]; first | done | omega)), ?_⟩)
    refine ⟨?_, ?_⟩
    · repeat (refine ⟨(by first | omega | (simp [-gD]; first | done | omega)), ?_⟩)
      refine dcall_intro (call_ok0 [] (ts) ?_ ?_ ?_ ?_ ?_ ?_) ?_ ?_
      any_goals (first | omega | (simp [nilL, nilV]; done) | (simp [nilL, nilV, *]; done))
      try simp only [go_sem, qA, qB, qC, qD, qE, qF, qG, qH]
      repeat (refine ⟨(by first | omega | (simp [-gD]; first | done | omega)), ?_⟩)
      refine ⟨?_, ?_⟩
      · repeat (refine ⟨(by first | omega | (simp [-gD]; first | done | omega)), ?_⟩)
        refine dcall_intro (call_ok0 [] (ci) ?_ ?_ ?_ ?_ ?_ ?_) ?_ ?_
        any_goals (first | omega | (simp [nilL, nilV]; done) | (simp [nilL, nilV, *]; done))
        try simp only [go_sem, qA, qB, qC, qD, qE, qF, qG, qH]
        repeat (refine ⟨(by first | omega | (simp [-gD]; first | done | omega)), ?_⟩)
        try simp only [go_sem, qA, qB, qC, qD, qE, qF, qG, qH]
        repeat (refine ⟨(by first | omega | (simp [-gD]; first | done | omega)), ?_⟩)
        refine calls_mk (t := [(9, .int .i64 w.2), (12, .ptr 23 0 0), (15, .int .i64 (1 + wSource w.1)), (18, .int .i64 w.2), (107, .agg [.ns 38 0 w.1.ths.length, .ns 39 0 w.1.chs.length, .ns 40 0 w.1.tr.length]), (108, .agg [.ns 24 0 w.1.ths.length, .ns 25 0 w.1.chs.length, .ns 26 0 w.1.tr.length])]) (h := [(23, 3, [sourceC .own (sourceMarks 1 w.1)]), (24, 3, threads .own w.1.ths), (25, 3, chans .own w.1.chs), (26, 2, notes w.1.tr), (38, 3, threads .own w.1.ths), (39, 3, chans .own w.1.chs), (40, 2, notes w.1.tr)]) (nx := 41) ?_ key.h
        refine Sub.trans (Sub.fold1 23 0 20 rfl (by simp [-gD] <;> omega) rfl (by decide) (by decide) rfl) ?_
        simp only [fS, qA, qC, mks_length]
        refine Sub.trans (Sub.fold1 23 1 21 rfl (by simp [-gD] <;> omega) rfl (by decide) (by decide) rfl) ?_
        simp only [fS, qA, qC, mks_length]
        refine Sub.trans (Sub.fold1 23 2 22 rfl (by simp [-gD] <;> omega) rfl (by decide) (by decide) rfl) ?_
        simp only [fS, qA, qC, mks_length]
        refine Sub.shape [] (fun n => if n = 38 then 37 else if n = 39 then 38 else if n = 40 then 39 else n) (by omega) ?_ ?_ ?_ ?_ <;> simp [ints_rep]
      · repeat (refine ⟨(by first | omega | (simp [-gD]; first | done | omega)), ?_⟩)
        refine dcall_intro (call_ok0 [] (ci) ?_ ?_ ?_ ?_ ?_ ?_) ?_ ?_
        any_goals (first | omega | (simp [nilL, nilV]; done) | (simp [nilL, nilV, *]; done))
        try simp only [go_sem, qA, qB, qC, qD, qE, qF, qG, qH]
        repeat (refine ⟨(by first | omega | (simp [-gD]; first | done | omega)), ?_⟩)
        try simp only [go_sem, qA, qB, qC, qD, qE, qF, qG, qH]
        repeat (refine ⟨(by first | omega | (simp [-gD]; first | done | omega)), ?_⟩)
        refine calls_mk (t := [(9, .int .i64 w.2), (12, .ptr 23 0 0), (15, .int .i64 (1 + wSource w.1)), (18, .int .i64 w.2), (107, .agg [.ns 38 0 w.1.ths.length, .ns 39 0 w.1.chs.length, .ns 40 0 w.1.tr.length]), (108, .agg [.ns 24 0 w.1.ths.length, .ns 25 0 w.1.chs.length, .ns 26 0 w.1.tr.length])]) (h := [(23, 3, [sourceC .own (sourceMarks 1 w.1)]), (24, 3, threads .own w.1.ths), (25, 3, chans .own w.1.chs), (26, 2, notes w.1.tr), (38, 3, threads .own w.1.ths), (39, 3, chans .own w.1.chs), (40, 2, notes w.1.tr)]) (nx := 41) ?_ key.h
        refine Sub.trans (Sub.fold1 23 0 20 rfl (by simp [-gD] <;> omega) rfl (by decide) (by decide) rfl) ?_
        simp only [fS, qA, qC, mks_length]
        refine Sub.trans (Sub.fold1 23 1 21 rfl (by simp [-gD] <;> omega) rfl (by decide) (by decide) rfl) ?_
        simp only [fS, qA, qC, mks_length]
        refine Sub.trans (Sub.fold1 23 2 22 rfl (by simp [-gD] <;> omega) rfl (by decide) (by decide) rfl) ?_
        simp only [fS, qA, qC, mks_length]
        refine Sub.shape [] id (by omega) ?_ ?_ ?_ ?_ <;> simp [ints_rep]
    · repeat (refine ⟨(by first | omega | (simp [-gD]; first | done | omega)), ?_⟩)
      refine dcall_intro (call_ok0 [] (ts) ?_ ?_ ?_ ?_ ?_ ?_) ?_ ?_
      any_goals (first | omega | (simp [nilL, nilV]; done) | (simp [nilL, nilV, *]; done))
      try simp only [go_sem, qA, qB, qC, qD, qE, qF, qG, qH]
      repeat (refine ⟨(by first | omega | (simp [-gD]; first | done | omega)), ?_⟩)
      refine dcall_intro (call_ok0 [] (ci) ?_ ?_ ?_ ?_ ?_ ?_) ?_ ?_
      any_goals (first | omega | (simp [nilL, nilV]; done) | (simp [nilL, nilV, *]; done))
      try simp only [go_sem, qA, qB, qC, qD, qE, qF, qG, qH]
      repeat (refine ⟨(by first | omega | (simp [-gD]; first | done | omega)), ?_⟩)
      try simp only [go_sem, qA, qB, qC, qD, qE, qF, qG, qH]
      repeat (refine ⟨(by first | omega | (simp [-gD]; first | done | omega)), ?_⟩)
      refine calls_mk (t := [(9, .int .i64 w.2), (12, .ptr 23 0 0), (15, .int .i64 (1 + wSource w.1)), (18, .int .i64 w.2), (107, .agg [.ns 38 0 w.1.ths.length, .ns 39 0 w.1.chs.length, .ns 40 0 w.1.tr.length]), (108, .agg [.ns 24 0 w.1.ths.length, .ns 25 0 w.1.chs.length, .ns 26 0 w.1.tr.length])]) (h := [(23, 3, [sourceC .own (sourceMarks 1 w.1)]), (24, 3, threads .own w.1.ths), (25, 3, chans .own w.1.chs), (26, 2, notes w.1.tr), (38, 3, threads .own w.1.ths), (39, 3, chans .own w.1.chs), (40, 2, notes w.1.tr)]) (nx := 41) ?_ key.h
      refine Sub.trans (Sub.fold1 23 0 20 rfl (by simp [-gD] <;> omega) rfl (by decide) (by decide) rfl) ?_
      simp only [fS, qA, qC, mks_length]
      refine Sub.trans (Sub.fold1 23 1 21 rfl (by simp [-gD] <;> omega) rfl (by decide) (by decide) rfl) ?_
      simp only [fS, qA, qC, mks_length]
      refine Sub.trans (Sub.fold1 23 2 22 rfl (by simp [-gD] <;> omega) rfl (by decide) (by decide) rfl) ?_
      simp only [fS, qA, qC, mks_length]
      refine Sub.shape [] id (by omega) ?_ ?_ ?_ ?_ <;> simp [ints_rep]
  · intro key
    repeat (refine ⟨(by first | omega | (simp [-gD]; first | done | omega)), ?_⟩)
    refine dcall_intro (call_ok0 [] (tp) ?_ ?_ ?_ ?_ ?_ ?_) ?_ ?_
    any_goals (first | omega | (simp [nilL, nilV]; done) | (simp [nilL, nilV, *]; done))
    try simp only [go_sem, qA, qB, qC, qD, qE, qF, qG, qH]
    repeat (refine ⟨(by first | omega | (simp [-gD]; first | done | omega)), ?_⟩)
    refine dcall_intro (call_ok0 [] (ts) ?_ ?_ ?_ ?_ ?_ ?_) ?_ ?_
    any_goals (first | omega | (simp [nilL, nilV]; done) | (simp [nilL, nilV, *]; done))
    try simp only [go_sem, qA, qB, qC, qD, qE, qF, qG, qH]
    repeat (refine ⟨(by first | omega | (simp [-gD]; first | done | omega)), ?_⟩)
    refine dcall_intro (call_ok0 [] (ci) ?_ ?_ ?_ ?_ ?_ ?_) ?_ ?_
    any_goals (first | omega | (simp [nilL, nilV]; done) | (simp [nilL, nilV, *]; done))
    try simp only [go_sem, qA, qB, qC, qD, qE, qF, qG, qH]
    repeat (refine ⟨(by first | omega | (simp [-gD]; first | done | omega)), ?_⟩)
    try simp only [go_sem, qA, qB, qC, qD, qE, qF, qG, qH]
    repeat (refine ⟨(by first | omega | (simp [-gD]; first | done | omega)), ?_⟩)
    refine calls_mk (t := [(9, .int .i64 w.2), (12, .ptr 23 0 0), (15, .int .i64 (1 + wSource w.1)), (18, .int .i64 w.2), (107, .agg [.ns 38 0 w.1.ths.length, .ns 39 0 w.1.chs.length, .ns 40 0 w.1.tr.length]), (108, .agg [.ns 24 0 w.1.ths.length, .ns 25 0 w.1.chs.length, .ns 26 0 w.1.tr.length])]) (h := [(23, 3, [sourceC .own (sourceMarks 1 w.1)]), (24, 3, threads .own w.1.ths), (25, 3, chans .own w.1.chs), (26, 2, notes w.1.tr), (38, 3, threads .own w.1.ths), (39, 3, chans .own w.1.chs), (40, 2, notes w.1.tr)]) (nx := 41) ?_ key.h
    refine Sub.trans (Sub.fold1 23 0 20 rfl (by simp [-gD] <;> omega) rfl (by decide) (by decide) rfl) ?_
    simp only [fS, qA, qC, mks_length]
    refine Sub.trans (Sub.fold1 23 1 21 rfl (by simp [-gD] <;> omega) rfl (by decide) (by decide) rfl) ?_
    simp only [fS, qA, qC, mks_length]
    refine Sub.trans (Sub.fold1 23 2 22 rfl (by simp [-gD] <;> omega) rfl (by decide) (by decide) rfl) ?_
    simp only [fS, qA, qC, mks_length]
    refine Sub.shape [] id (by omega) ?_ ?_ ?_ ?_ <;> simp [ints_rep]
  refine calls_intro (call_ok0 [] (ew) ?_ ?_ ?_ ?_ ?_ ?_) ?_
  any_goals (first | omega | (simp [nilL, nilV]; done) | (simp [nilL, nilV, *]; done))
  try simp only [go_sem, qA, qB, qC, qD, qE, qF, qG, qH]
  repeat (refine ⟨(by first | omega | (simp [-gD]; first | done | omega)), ?_⟩)
  try simp only [go_sem, qA, qB, qC, qD, qE, qF, qG, qH]
  repeat (refine ⟨(by first | omega | (simp [-gD]; first | done | omega)), ?_⟩)
  refine calls_intro (call_ok0 [] (heldSource_ok w.1 1 (by omega) (by omega) (by omega) (by omega) (by omega)) ?_ ?_ ?_ ?_ ?_ ?_) ?_
  any_goals (first | omega | (simp [nilL, nilV]; done) | (simp [nilL, nilV, *]; done))
  try simp only [go_sem, qA, qB, qC, qD, qE, qF, qG, qH]
  repeat (refine ⟨(by first | omega | (simp [-gD]; first | done | omega)), ?_⟩)
  try simp only [go_sem, qA, qB, qC, qD, qE, qF, qG, qH, d1]
  repeat (refine ⟨(by first | omega | (simp [-gD]; first | done | omega)), ?_⟩)
  refine ⟨_, Sub.refl _, ?_⟩; simp [FinS, nilL, nilV, oneOr, -List.drop_one]


end Go.Sep
