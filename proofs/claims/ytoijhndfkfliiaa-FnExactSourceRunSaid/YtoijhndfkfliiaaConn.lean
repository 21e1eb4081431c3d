/- Contracts of functions. -/
import Derived.Test.YtoijhndfkfliiaaConl
namespace Go.Sep
open Go.Proofs
set_option linter.unusedSimpArgs false
set_option linter.unusedVariables false
set_option maxRecDepth 100000
open Nat renaming reduceAdd → qA, reduceMul → qB, reduceEqDiff → qC, reduceBEq → qD
open Int renaming reduceToNat → qE, reduceEq → qF, reduceLT → qG, reduceLE → qH
open List renaming getD_eq_getElem?_getD → gD
attribute [local go_sem] paramT preH e_seq e_reg e_block e_loop e_ops e_skip e_ret e_cond e_guard e_call e_ops1 plan next_ok next_some Arg.ev lookT putD putT if_false if_true app1 put del ints_length binA Option.map_some Option.bind_some look Int.toNat_natCast e_blk e_stop e_exit exitIt true_and and_true maybe_do maybe_tf maybe_ft branch_true branch_false Bool.false_eq_true bnd? cellsOf openL List.isEmpty_nil List.isEmpty_cons fresh List.map_nil List.map_cons List.cons_append List.nil_append splice List.take_zero List.drop_zero List.take_succ_cons List.getD_cons_zero List.length_cons List.length_nil List.drop_succ_cons List.drop_nil List.append_nil List.all_cons List.all_nil cellOk Bool.and_self Nat.zero_add e_dreg e_done e_take e_only1 e_onlyc e_takeg e_onlyg e_both dnext_some dnext_ok dmaybe_do rdTake pdTake addP rdOnly pdOnly isRead alive needs undep apart List.filter_nil List.filter_cons Option.isSome_some Option.isSome_none List.contains_nil List.contains_cons List.forall_mem_cons List.mem_cons List.not_mem_nil false_implies implies_true forall_const forall_eq_or_imp forall_eq or_false beq_self_eq_true Bool.or_false Bool.false_or Bool.true_or Bool.or_true Bool.not_true Bool.not_false xv xo xg xr xi xz List.set_set maybe_skip dmaybe_skip dmaybe_tf dmaybe_ft fillR fillROk fillA fillOk srcA eqC bytesOf ints_append List.replicate_zero decide_true decide_false ints_set nil_bind List.replicate_succ Int.toNat_zero Int.toNat_one eq_self Bool.and_true Bool.true_and Bool.and_false Bool.false_and List.set_cons_zero List.set_cons_succ List.getD_cons_succ rnm ixm renV renL openV openVs cond_true cond_false ints_drop ints_take drop_all
attribute [local simp] hand bwT bwC bwL ints_bw ints_take lookT Arg.ev handOk bwOk bwOks bwTs nf_sl nf_int nf_bool ints_bnd okV okL nb nbs nbr ints_nb look ints_length bnd bnds bndr renV renL ixm rnm apart needs rdOnly pdOnly fresh openV openVs resAV allP giveL giveV postH del isOwn partR ints_drop drop_all shp okB okBs ints_free
attribute [local go_sem] inss_length inss_append inss_drop inss_take inss_set insC bodies_length bodies_append bodies_drop bodies_take bodies_set intss_length intss_append intss_drop intss_take intss_set chans_length chans_append chans_drop chans_take chans_set chanC notes_length notes_append notes_drop notes_take notes_set noteC threads_length threads_append threads_drop threads_take threads_set threadC wents_length wents_append wents_drop wents_take wents_set wentC progs_length progs_append progs_drop progs_take progs_set progC sources_length sources_append sources_drop sources_take sources_set sourceC bys_length bys_append bys_drop bys_take bys_set
attribute [local simp] nilL_cons nilL_nil nilV_agg nilV_tup nilV_nilsl nilV_nil nilV_sl nilV_int nilV_bool nilV_str nilV_ns nilV_ptr nilRs_cons nilRs_nil free_nil free_cons inss_nil inss_bw inss_bnd inss_nb inss_length inss_take inss_drop inss_free bodies_nil bodies_bw bodies_bnd bodies_nb bodies_length bodies_take bodies_drop bodies_free intss_nil intss_bw intss_bnd intss_nb intss_length intss_take intss_drop intss_free chans_nil chans_bw chans_bnd chans_nb chans_length chans_take chans_drop chans_free notes_nil notes_bw notes_bnd notes_nb notes_length notes_take notes_drop notes_free threads_nil threads_bw threads_bnd threads_nb threads_length threads_take threads_drop threads_free wents_nil wents_bw wents_bnd wents_nb wents_length wents_take wents_drop wents_free progs_nil progs_bw progs_bnd progs_nb progs_length progs_take progs_drop progs_free sources_nil sources_bw sources_bnd sources_nb sources_length sources_take sources_drop sources_free bys_nil bys_bw bys_bnd bys_nb bys_length bys_take bys_drop bys_free curC insC chanC noteC threadC wentC progC sourceC

attribute [local simp] sourceMarks
theorem sourceRun_sz {p : Prog} {s : Source} {picks : List Int} {n : Nat} (h : SrcSz s n) (hn : 5000 ≤ n) : SrcSz (sourceRun p s picks).1 n ∧ (sourceRun p s picks).2.length ≤ 4000 := by
  unfold sourceRun
  split
  · rename_i h
    simp only [Bool.and_eq_true, decide_eq_true_eq] at h
    have := runFold_ok h.1 picks picks.length (Nat.le_refl _)
    rw [List.take_length] at this
    exact ⟨(srcSz_ok this.1).mono hn, by show (picks.foldl (runStep p) (s, [])).2.length ≤ 4000; omega⟩
  · exact ⟨h, by simp⟩

set_option maxHeartbeats 8000000 in
theorem exactSourceRun_ok (p : Prog) (s : Source) (picks : List Int) (h1 : p.caps.length < 2 ^ 63 ∧ p.bods.length < 2 ^ 63 ∧ ∀ b ∈ p.bods, b.length < 2 ^ 63) (h2 : s.ths.length < 2 ^ 63 ∧ s.chs.length < 2 ^ 63 ∧ s.tr.length < 2 ^ 63 ∧ (∀ t ∈ s.ths, t.regs.length < 2 ^ 63) ∧ (∀ c ∈ s.chs, c.list.length < 2 ^ 63)) :
    CallOk Try.prog num 149 [.agg (progC .bw p), .agg (sourceC .bw s), .sl .bw 1 (ints picks)] [] (.bool true) := by
  refine enter (m := m149) (f := 149) (fn := Try.f12) Try.func12 (by kernel_rfl) rfl c149 rfl (by simp [Try.f12]) (by simp [bnds, bnd, nf_sl, nf_int, nf_bool, nf_str, ints_bnd]) (fun _ _ h => by simp [preH, look] at h) ?_
  unfold m149
  by_cases hpk : (1048576 : Int) < picks.length
  · simp only [go_sem, qA, qB, qC, qD, qE, qF, qG, qH, hpk]
    repeat (refine ⟨(by first | omega | (simp [-gD]; first | done | omega)), ?_⟩)
    refine ⟨_, Sub.refl _, ?_⟩; simp [FinS, nilL, nilV, oneOr, -List.drop_one]
  simp only [go_sem, qA, qB, qC, qD, qE, qF, qG, qH, hpk]
  repeat (refine ⟨(by first | omega | (simp [-gD]; first | done | omega)), ?_⟩)
  refine calls_intro (call_ok0 [] (szProg_ok p 1048576 h1.1 h1.2.1 h1.2.2 (by omega) (by omega)) ?_ ?_ ?_ ?_ ?_ ?_) ?_
  any_goals (first | omega | (simp [nilL, nilV]; done) | (simp [nilL, nilV, *]; done))
  try simp only [go_sem, qA, qB, qC, qD, qE, qF, qG, qH]
  repeat (refine ⟨(by first | omega | (simp [-gD]; first | done | omega)), ?_⟩)
  rw [szProg_eq p _ (by omega)]
  refine branch_intro (fun hc => ?_) (fun hc => ?_)
  · simp only [go_sem, qA, qB, qC, qD, qE, qF, qG, qH]
    repeat (refine ⟨(by first | omega | (simp [-gD]; first | done | omega)), ?_⟩)
    refine ⟨_, Sub.refl _, ?_⟩; simp [FinS, nilL, nilV, oneOr, -List.drop_one]
  simp only [decide_eq_false_iff_not] at hc
  have ep := szL_nonneg hc
  have hp := prgSz_of (p := p) (n := 1048576) (by have := szL_ge hc (by omega); omega)
  simp only [go_sem, qA, qB, qC, qD, qE, qF, qG, qH]
  repeat (refine ⟨(by first | omega | (simp [-gD]; first | done | omega)), ?_⟩)
  refine calls_intro (call_ok0 [] (szSource_ok s (szL (wProg p) 1048576) h2.1 h2.2.1 h2.2.2.1 h2.2.2.2.1 h2.2.2.2.2 (by omega) (by omega)) ?_ ?_ ?_ ?_ ?_ ?_) ?_
  any_goals (first | omega | (simp [nilL, nilV]; done) | (simp [nilL, nilV, *]; done))
  try simp only [go_sem, qA, qB, qC, qD, qE, qF, qG, qH]
  repeat (refine ⟨(by first | omega | (simp [-gD]; first | done | omega)), ?_⟩)
  refine branch_intro (fun hc2 => ?_) (fun hc2 => ?_)
  · simp only [go_sem, qA, qB, qC, qD, qE, qF, qG, qH]
    repeat (refine ⟨(by first | omega | (simp [-gD]; first | done | omega)), ?_⟩)
    refine ⟨_, Sub.refl _, ?_⟩; simp [FinS, nilL, nilV, oneOr, -List.drop_one]
  simp only [decide_eq_false_iff_not] at hc2
  have hs := srcSz_of (s := s) (n := 1048576) (by have := szL_ge hc2 (by omega); omega)
  clear ep hc hc2 h1 h2
  obtain ⟨p1, p2, p3, p4⟩ := hp
  have hsz := sourceRun_sz (p := p) (picks := picks) hs (by omega)
  obtain ⟨s1, s2, s3, s4, s5, s6⟩ := hs
  have q1 : ∀ b ∈ p.bods, 40 * b.length ≤ 2 ^ 47 := fun b hb => by have := p3 b hb; omega
  have q2 : ∀ b ∈ p.bods, b.length ≤ 2 ^ 47 := fun b hb => by have := p3 b hb; omega
  have q3 : ∀ t ∈ s.ths, 8 * t.regs.length ≤ 2 ^ 47 := fun t ht => by have := s4 t ht; omega
  have q4 : ∀ c ∈ s.chs, 8 * c.list.length ≤ 2 ^ 47 := fun t ht => by have := s5 t ht; omega
  have q5 : ∀ t ∈ s.ths, t.regs.length ≤ 2 ^ 47 := fun t ht => by have := s4 t ht; omega
  have q6 : ∀ c ∈ s.chs, c.list.length ≤ 2 ^ 47 := fun t ht => by have := s5 t ht; omega
  have hpp : SmallP p := ⟨by omega, by omega, fun b hb => by have := p3 b hb; omega⟩
  have hss : Small s := ⟨by omega, by omega, by omega, fun b hb => by have := s4 b hb; omega, fun b hb => by have := s5 b hb; omega⟩
  have tp := toProg_ok p (by omega) (by omega) q1
  have ts := toSource_ok s (by omega) (by omega) (by omega) q3 q4
  have ti := toIntS_ok picks (by omega)
  have cs := specSourceRun_ok p s picks hpp hss (by omega)
  have ci := implSourceRun_ok p s picks hpp hss (by omega)
  generalize hw : sourceRun p s picks = w at hsz cs ci
  obtain ⟨⟨w1, w2, w3, w4, w5, w6⟩, w7⟩ := hsz
  have q7 : ∀ t ∈ w.1.ths, t.regs.length ≤ 2 ^ 47 := fun t ht => by have := w4 t ht; omega
  have q8 : ∀ c ∈ w.1.chs, c.list.length ≤ 2 ^ 47 := fun t ht => by have := w5 t ht; omega
  have ew := eqSource_ok w.1 w.1 (by omega) (by omega) (by omega) q7 q8
  have ei := eqIntS_ok w.2 w.2 (by omega)
  have ek := eqIntS_ok picks picks (by omega)
  have ep := eqProg_ok p p (by omega) (by omega) q2
  have es := eqSource_ok s s (by omega) (by omega) (by omega) q5 q6
  have d1 : decide ((1 : Int) + wSource w.1 < 0) = false := by simp; omega
  have d3 : decide ((1 : Int) + wSource w.1 + w.2.length < 0) = false := by simp; omega
  have d2 : decide ((1 : Int) + p.caps.length + 5 * tot p.bods + wSource s + picks.length < 0) = false := by simp; omega
  simp only [go_sem, qA, qB, qC, qD, qE, qF, qG, qH]
  repeat (refine ⟨(by first | omega | (simp [-gD]; first | done | omega)), ?_⟩)
  apply join2
  · intro key
    repeat (refine ⟨(by first | omega | (simp [-gD]; first | done | omega)), ?_⟩)
    refine dcall_intro (call_ok0 [] (tp) ?_ ?_ ?_ ?_ ?_ ?_) ?_ ?_
    any_goals (first | omega | (simp [nilL, nilV]; done) | (simp [nilL, nilV, *]; done))
    try simp only [go_sem, qA, qB, qC, qD, qE, qF, qG, qH]
    repeat (refine ⟨(by first | omega | (simp [-gD]; first | done | omega)), ?_⟩)
    refine ⟨?_, ?_⟩
    · repeat (refine ⟨(by first | omega | (simp [-gD]; first | done | omega)), ?_⟩)
      refine dcall_intro (call_ok0 [] (ts) ?_ ?_ ?_ ?_ ?_ ?_) ?_ ?_
      any_goals (first | omega | (simp [nilL, nilV]; done) | (simp [nilL, nilV, *]; done))
      try simp only [go_sem, qA, qB, qC, qD, qE, qF, qG, qH]
      repeat (refine ⟨(by first | omega | (simp [-gD]; first | done | omega)), ?_⟩)
      refine ⟨?_, ?_⟩
      · repeat (refine ⟨(by first | omega | (simp [-gD]; first | done | omega)), ?_⟩)
        refine dcall_intro (call_ok0 [] (ti) ?_ ?_ ?_ ?_ ?_ ?_) ?_ ?_
        any_goals (first | omega | (simp [nilL, nilV]; done) | (simp [nilL, nilV, *]; done))
        try simp only [go_sem, qA, qB, qC, qD, qE, qF, qG, qH]
        repeat (refine ⟨(by first | omega | (simp [-gD]; first | done | omega)), ?_⟩)
        refine ⟨?_, ?_⟩
        · repeat (refine ⟨(by first | omega | (simp [-gD]; first | done | omega)), ?_⟩)
          refine dcall_intro (call_ok0 [] (cs) ?_ ?_ ?_ ?_ ?_ ?_) ?_ ?_
          any_goals (first | omega | (simp [nilL, nilV]; done) | (simp [nilL, nilV, *]; done))
          try simp only [go_sem, qA, qB, qC, qD, qE, qF, qG, qH]
          repeat (refine ⟨(by first | omega | (simp [-gD]; first | done | omega)), ?_⟩)
          try simp only [go_sem, qA, qB, qC, qD, qE, qF, qG, qH]
          repeat (refine ⟨(by first | omega | (simp [-gD]; first | done | omega)), ?_⟩)
          refine calls_mk (t := [(2, .sl .bw 1 (ints picks)), (3, .ptr 10 0 0), (4, .ptr 11 0 0), (8, .ptr 12 0 0), (9, .ns 13 0 w.2.length), (43, .agg (progC .bw p))]) (h := [(10, 2, [progC .bw p]), (11, 3, [sourceC .bw s]), (12, 3, [sourceC .own w.1]), (13, 1, ints w.2)]) (nx := 14) ?_ key.h
          refine Sub.trans (Sub.fold1 22 0 18 rfl (by simp [-gD] <;> omega) rfl (by decide) (by decide) rfl) ?_
          simp only [fS, qA, qC]
          refine Sub.trans (Sub.fold1 22 1 19 rfl (by simp [-gD] <;> omega) rfl (by decide) (by decide) rfl) ?_
          simp only [fS, qA, qC]
          refine Sub.trans (Sub.fold1 22 2 20 rfl (by simp [-gD] <;> omega) rfl (by decide) (by decide) rfl) ?_
          simp only [fS, qA, qC]
          refine Sub.shape [] (fun n => if n = 12 then 22 else if n = 13 then 21 else n) (by omega) ?_ ?_ ?_ ?_ <;> simp [ints_rep]
        · repeat (refine ⟨(by first | omega | (simp [-gD]; first | done | omega)), ?_⟩)
          refine dcall_intro (call_ok0 [] (cs) ?_ ?_ ?_ ?_ ?_ ?_) ?_ ?_
          any_goals (first | omega | (simp [nilL, nilV]; done) | (simp [nilL, nilV, *]; done))
          try simp only [go_sem, qA, qB, qC, qD, qE, qF, qG, qH]
          repeat (refine ⟨(by first | omega | (simp [-gD]; first | done | omega)), ?_⟩)
          try simp only [go_sem, qA, qB, qC, qD, qE, qF, qG, qH]
          repeat (refine ⟨(by first | omega | (simp [-gD]; first | done | omega)), ?_⟩)
          refine calls_mk (t := [(2, .sl .bw 1 (ints picks)), (3, .ptr 10 0 0), (4, .ptr 11 0 0), (8, .ptr 12 0 0), (9, .ns 13 0 w.2.length), (43, .agg (progC .bw p))]) (h := [(10, 2, [progC .bw p]), (11, 3, [sourceC .bw s]), (12, 3, [sourceC .own w.1]), (13, 1, ints w.2)]) (nx := 14) ?_ key.h
          refine Sub.trans (Sub.fold1 18 0 19 rfl (by simp [-gD] <;> omega) rfl (by decide) (by decide) rfl) ?_
          simp only [fS, qA, qC]
          refine Sub.trans (Sub.fold1 18 1 20 rfl (by simp [-gD] <;> omega) rfl (by decide) (by decide) rfl) ?_
          simp only [fS, qA, qC]
          refine Sub.trans (Sub.fold1 18 2 21 rfl (by simp [-gD] <;> omega) rfl (by decide) (by decide) rfl) ?_
          simp only [fS, qA, qC]
          refine Sub.shape [] (fun n => if n = 12 then 18 else if n = 13 then 22 else n) (by omega) ?_ ?_ ?_ ?_ <;> simp [ints_rep]
      · repeat (refine ⟨(by first | omega | (simp [-gD]; first | done | omega)), ?_⟩)
        refine dcall_intro (call_ok0 [] (ti) ?_ ?_ ?_ ?_ ?_ ?_) ?_ ?_
        any_goals (first | omega | (simp [nilL, nilV]; done) | (simp [nilL, nilV, *]; done))
        try simp only [go_sem, qA, qB, qC, qD, qE, qF, qG, qH]
        repeat (refine ⟨(by first | omega | (simp [-gD]; first | done | omega)), ?_⟩)
        refine dcall_intro (call_ok0 [] (cs) ?_ ?_ ?_ ?_ ?_ ?_) ?_ ?_
        any_goals (first | omega | (simp [nilL, nilV]; done) | (simp [nilL, nilV, *]; done))
        try simp only [go_sem, qA, qB, qC, qD, qE, qF, qG, qH]
        repeat (refine ⟨(by first | omega | (simp [-gD]; first | done | omega)), ?_⟩)
        try simp only [go_sem, qA, qB, qC, qD, qE, qF, qG, qH]
        repeat (refine ⟨(by first | omega | (simp [-gD]; first | done | omega)), ?_⟩)
        refine calls_mk (t := [(2, .sl .bw 1 (ints picks)), (3, .ptr 10 0 0), (4, .ptr 11 0 0), (8, .ptr 12 0 0), (9, .ns 13 0 w.2.length), (43, .agg (progC .bw p))]) (h := [(10, 2, [progC .bw p]), (11, 3, [sourceC .bw s]), (12, 3, [sourceC .own w.1]), (13, 1, ints w.2)]) (nx := 14) ?_ key.h
        refine Sub.trans (Sub.fold1 17 0 19 rfl (by simp [-gD] <;> omega) rfl (by decide) (by decide) rfl) ?_
        simp only [fS, qA, qC]
        refine Sub.trans (Sub.fold1 17 1 20 rfl (by simp [-gD] <;> omega) rfl (by decide) (by decide) rfl) ?_
        simp only [fS, qA, qC]
        refine Sub.trans (Sub.fold1 17 2 21 rfl (by simp [-gD] <;> omega) rfl (by decide) (by decide) rfl) ?_
        simp only [fS, qA, qC]
        refine Sub.shape [] (fun n => if n = 12 then 17 else if n = 13 then 22 else n) (by omega) ?_ ?_ ?_ ?_ <;> simp [ints_rep]
    · repeat (refine ⟨(by first | omega | (simp [-gD]; first | done | omega)), ?_⟩)
      refine dcall_intro (call_ok0 [] (ts) ?_ ?_ ?_ ?_ ?_ ?_) ?_ ?_
      any_goals (first | omega | (simp [nilL, nilV]; done) | (simp [nilL, nilV, *]; done))
      try simp only [go_sem, qA, qB, qC, qD, qE, qF, qG, qH]
      repeat (refine ⟨(by first | omega | (simp [-gD]; first | done | omega)), ?_⟩)
      refine dcall_intro (call_ok0 [] (ti) ?_ ?_ ?_ ?_ ?_ ?_) ?_ ?_
      any_goals (first | omega | (simp [nilL, nilV]; done) | (simp [nilL, nilV, *]; done))
      try simp only [go_sem, qA, qB, qC, qD, qE, qF, qG, qH]
      repeat (refine ⟨(by first | omega | (simp [-gD]; first | done | omega)), ?_⟩)
      refine dcall_intro (call_ok0 [] (cs) ?_ ?_ ?_ ?_ ?_ ?_) ?_ ?_
      any_goals (first | omega | (simp [nilL, nilV]; done) | (simp [nilL, nilV, *]; done))
      try simp only [go_sem, qA, qB, qC, qD, qE, qF, qG, qH]
      repeat (refine ⟨(by first | omega | (simp [-gD]; first | done | omega)), ?_⟩)
      try simp only [go_sem, qA, qB, qC, qD, qE, qF, qG, qH]
      repeat (refine ⟨(by first | omega | (simp [-gD]; first | done | omega)), ?_⟩)
      refine calls_mk (t := [(2, .sl .bw 1 (ints picks)), (3, .ptr 10 0 0), (4, .ptr 11 0 0), (8, .ptr 12 0 0), (9, .ns 13 0 w.2.length), (43, .agg (progC .bw p))]) (h := [(10, 2, [progC .bw p]), (11, 3, [sourceC .bw s]), (12, 3, [sourceC .own w.1]), (13, 1, ints w.2)]) (nx := 14) ?_ key.h
      refine Sub.trans (Sub.fold1 14 0 19 rfl (by simp [-gD] <;> omega) rfl (by decide) (by decide) rfl) ?_
      simp only [fS, qA, qC]
      refine Sub.trans (Sub.fold1 14 1 20 rfl (by simp [-gD] <;> omega) rfl (by decide) (by decide) rfl) ?_
      simp only [fS, qA, qC]
      refine Sub.trans (Sub.fold1 14 2 21 rfl (by simp [-gD] <;> omega) rfl (by decide) (by decide) rfl) ?_
      simp only [fS, qA, qC]
      refine Sub.shape [] (fun n => if n = 12 then 14 else if n = 13 then 22 else n) (by omega) ?_ ?_ ?_ ?_ <;> simp [ints_rep]
  · intro key
    repeat (refine ⟨(by first | omega | (simp [-gD]; first | done | omega)), ?_⟩)
    refine dcall_intro (call_ok0 [] (tp) ?_ ?_ ?_ ?_ ?_ ?_) ?_ ?_
    any_goals (first | omega | (simp [nilL, nilV]; done) | (simp [nilL, nilV, *]; done))
    try simp only [go_sem, qA, qB, qC, qD, qE, qF, qG, qH]
    repeat (refine ⟨(by first | omega | (simp [-gD]; first | done | omega)), ?_⟩)
    refine dcall_intro (call_ok0 [] (ts) ?_ ?_ ?_ ?_ ?_ ?_) ?_ ?_
    any_goals (first | omega | (simp [nilL, nilV]; done) | (simp [nilL, nilV, *]; done))
    try simp only [go_sem, qA, qB, qC, qD, qE, qF, qG, qH]
    repeat (refine ⟨(by first | omega | (simp [-gD]; first | done | omega)), ?_⟩)
    refine dcall_intro (call_ok0 [] (ti) ?_ ?_ ?_ ?_ ?_ ?_) ?_ ?_
    any_goals (first | omega | (simp [nilL, nilV]; done) | (simp [nilL, nilV, *]; done))
    try simp only [go_sem, qA, qB, qC, qD, qE, qF, qG, qH]
    repeat (refine ⟨(by first | omega | (simp [-gD]; first | done | omega)), ?_⟩)
    refine dcall_intro (call_ok0 [] (cs) ?_ ?_ ?_ ?_ ?_ ?_) ?_ ?_
    any_goals (first | omega | (simp [nilL, nilV]; done) | (simp [nilL, nilV, *]; done))
    try simp only [go_sem, qA, qB, qC, qD, qE, qF, qG, qH]
    repeat (refine ⟨(by first | omega | (simp [-gD]; first | done | omega)), ?_⟩)
    try simp only [go_sem, qA, qB, qC, qD, qE, qF, qG, qH]
    repeat (refine ⟨(by first | omega | (simp [-gD]; first | done | omega)), ?_⟩)
    refine calls_mk (t := [(2, .sl .bw 1 (ints picks)), (3, .ptr 10 0 0), (4, .ptr 11 0 0), (8, .ptr 12 0 0), (9, .ns 13 0 w.2.length), (43, .agg (progC .bw p))]) (h := [(10, 2, [progC .bw p]), (11, 3, [sourceC .bw s]), (12, 3, [sourceC .own w.1]), (13, 1, ints w.2)]) (nx := 14) ?_ key.h
    refine Sub.trans (Sub.fold1 12 0 19 rfl (by simp [-gD] <;> omega) rfl (by decide) (by decide) rfl) ?_
    simp only [fS, qA, qC]
    refine Sub.trans (Sub.fold1 12 1 20 rfl (by simp [-gD] <;> omega) rfl (by decide) (by decide) rfl) ?_
    simp only [fS, qA, qC]
    refine Sub.trans (Sub.fold1 12 2 21 rfl (by simp [-gD] <;> omega) rfl (by decide) (by decide) rfl) ?_
    simp only [fS, qA, qC]
    refine Sub.shape [] (fun n => if n = 13 then 22 else n) (by omega) ?_ ?_ ?_ ?_ <;> simp [ints_rep]
  refine calls_intro (call_ok0 [] (tp) ?_ ?_ ?_ ?_ ?_ ?_) ?_
  any_goals (first | omega | (simp [nilL, nilV]; done) | (simp [nilL, nilV, *]; done))
  try simp only [go_sem, qA, qB, qC, qD, qE, qF, qG, qH]
  repeat (refine ⟨(by first | omega | (simp [-gD]; first | done | omega)), ?_⟩)
  refine calls_intro (call_ok0 [] (ts) ?_ ?_ ?_ ?_ ?_ ?_) ?_
  any_goals (first | omega | (simp [nilL, nilV]; done) | (simp [nilL, nilV, *]; done))
  try simp only [go_sem, qA, qB, qC, qD, qE, qF, qG, qH]
  repeat (refine ⟨(by first | omega | (simp [-gD]; first | done | omega)), ?_⟩)
  refine calls_intro (call_ok0 [] (ti) ?_ ?_ ?_ ?_ ?_ ?_) ?_
  any_goals (first | omega | (simp [nilL, nilV]; done) | (simp [nilL, nilV, *]; done))
  try simp only [go_sem, qA, qB, qC, qD, qE, qF, qG, qH]
  repeat (refine ⟨(by first | omega | (simp [-gD]; first | done | omega)), ?_⟩)
  refine calls_intro (call_ok0 [] (ci) ?_ ?_ ?_ ?_ ?_ ?_) ?_
  any_goals (first | omega | (simp [nilL, nilV]; done) | (simp [nilL, nilV, *]; done))
  try simp only [go_sem, qA, qB, qC, qD, qE, qF, qG, qH]
  repeat (refine ⟨(by first | omega | (simp [-gD]; first | done | omega)), ?_⟩)
  refine calls_intro (call_ok0 [] (ew) ?_ ?_ ?_ ?_ ?_ ?_) ?_
  any_goals (first | omega | (simp [nilL, nilV]; done) | (simp [nilL, nilV, *]; done))
  try simp only [go_sem, qA, qB, qC, qD, qE, qF, qG, qH]
  repeat (refine ⟨(by first | omega | (simp [-gD]; first | done | omega)), ?_⟩)
  try simp only [go_sem, qA, qB, qC, qD, qE, qF, qG, qH]
  repeat (refine ⟨(by first | omega | (simp [-gD]; first | done | omega)), ?_⟩)
  refine calls_intro (call_ok0 [] (ei) ?_ ?_ ?_ ?_ ?_ ?_) ?_
  any_goals (first | omega | (simp [nilL, nilV]; done) | (simp [nilL, nilV, *]; done))
  try simp only [go_sem, qA, qB, qC, qD, qE, qF, qG, qH]
  repeat (refine ⟨(by first | omega | (simp [-gD]; first | done | omega)), ?_⟩)
  try simp only [go_sem, qA, qB, qC, qD, qE, qF, qG, qH]
  repeat (refine ⟨(by first | omega | (simp [-gD]; first | done | omega)), ?_⟩)
  refine dcall_intro (call_ok0 [] (tp) ?_ ?_ ?_ ?_ ?_ ?_) ?_ ?_
  any_goals (first | omega | (simp [nilL, nilV]; done) | (simp [nilL, nilV, *]; done))
  try simp only [go_sem, qA, qB, qC, qD, qE, qF, qG, qH]
  repeat (refine ⟨(by first | omega | (simp [-gD]; first | done | omega)), ?_⟩)
  refine dcall_intro (call_ok0 [] (ep) ?_ ?_ ?_ ?_ ?_ ?_) ?_ ?_
  any_goals (first | omega | (simp [nilL, nilV]; done) | (simp [nilL, nilV, *]; done))
  try simp only [go_sem, qA, qB, qC, qD, qE, qF, qG, qH]
  repeat (refine ⟨(by first | omega | (simp [-gD]; first | done | omega)), ?_⟩)
  try simp only [go_sem, qA, qB, qC, qD, qE, qF, qG, qH]
  repeat (refine ⟨(by first | omega | (simp [-gD]; first | done | omega)), ?_⟩)
  refine dcall_intro (call_ok0 [] (ts) ?_ ?_ ?_ ?_ ?_ ?_) ?_ ?_
  any_goals (first | omega | (simp [nilL, nilV]; done) | (simp [nilL, nilV, *]; done))
  try simp only [go_sem, qA, qB, qC, qD, qE, qF, qG, qH]
  repeat (refine ⟨(by first | omega | (simp [-gD]; first | done | omega)), ?_⟩)
  refine dcall_intro (call_ok0 [] (es) ?_ ?_ ?_ ?_ ?_ ?_) ?_ ?_
  any_goals (first | omega | (simp [nilL, nilV]; done) | (simp [nilL, nilV, *]; done))
  try simp only [go_sem, qA, qB, qC, qD, qE, qF, qG, qH]
  repeat (refine ⟨(by first | omega | (simp [-gD]; first | done | omega)), ?_⟩)
  try simp only [go_sem, qA, qB, qC, qD, qE, qF, qG, qH]
  repeat (refine ⟨(by first | omega | (simp [-gD]; first | done | omega)), ?_⟩)
  refine calls_intro (call_ok0 [] (ti) ?_ ?_ ?_ ?_ ?_ ?_) ?_
  any_goals (first | omega | (simp [nilL, nilV]; done) | (simp [nilL, nilV, *]; done))
  try simp only [go_sem, qA, qB, qC, qD, qE, qF, qG, qH]
  repeat (refine ⟨(by first | omega | (simp [-gD]; first | done | omega)), ?_⟩)
  refine calls_intro (call_ok0 [] (ek) ?_ ?_ ?_ ?_ ?_ ?_) ?_
  any_goals (first | omega | (simp [nilL, nilV]; done) | (simp [nilL, nilV, *]; done))
  try simp only [go_sem, qA, qB, qC, qD, qE, qF, qG, qH]
  repeat (refine ⟨(by first | omega | (simp [-gD]; first | done | omega)), ?_⟩)
  try simp only [go_sem, qA, qB, qC, qD, qE, qF, qG, qH]
  repeat (refine ⟨(by first | omega | (simp [-gD]; first | done | omega)), ?_⟩)
  refine calls_intro (call_ok0 [(0, 14), (1, 15)] (markProg_ok p 1 (by omega) (by omega) (by omega)) ?_ ?_ ?_ ?_ ?_ ?_) ?_
  any_goals (first | omega | (simp [nilL, nilV]; done) | (simp [nilL, nilV, *]; done))
  try simp only [go_sem, qA, qB, qC, qD, qE, qF, qG, qH]
  repeat (refine ⟨(by first | omega | (simp [-gD]; first | done | omega)), ?_⟩)
  refine calls_intro (call_ok0 [(0, 17), (1, 18), (2, 19)] (markSource_ok s (1 + p.caps.length + 5 * tot p.bods) (by omega) (by omega) (by omega) (by omega) (by omega)) ?_ ?_ ?_ ?_ ?_ ?_) ?_
  any_goals (first | omega | (simp [nilL, nilV]; done) | (simp [nilL, nilV, *]; done))
  try simp only [go_sem, qA, qB, qC, qD, qE, qF, qG, qH]
  repeat (refine ⟨(by first | omega | (simp [-gD]; first | done | omega)), ?_⟩)
  refine calls_intro (call_ok0 [(0, 21)] (markIntS_ok picks (1 + p.caps.length + 5 * tot p.bods + wSource s) (by omega) (by omega)) ?_ ?_ ?_ ?_ ?_ ?_) ?_
  any_goals (first | omega | (simp [nilL, nilV]; done) | (simp [nilL, nilV, *]; done))
  try simp only [go_sem, qA, qB, qC, qD, qE, qF, qG, qH]
  repeat (refine ⟨(by first | omega | (simp [-gD]; first | done | omega)), ?_⟩)
  try simp only [go_sem, qA, qB, qC, qD, qE, qF, qG, qH, d2]
  repeat (refine ⟨(by first | omega | (simp [-gD]; first | done | omega)), ?_⟩)
  refine calls_intro (call_ok0 [] (ew) ?_ ?_ ?_ ?_ ?_ ?_) ?_
  any_goals (first | omega | (simp [nilL, nilV]; done) | (simp [nilL, nilV, *]; done))
  try simp only [go_sem, qA, qB, qC, qD, qE, qF, qG, qH]
  repeat (refine ⟨(by first | omega | (simp [-gD]; first | done | omega)), ?_⟩)
  try simp only [go_sem, qA, qB, qC, qD, qE, qF, qG, qH]
  repeat (refine ⟨(by first | omega | (simp [-gD]; first | done | omega)), ?_⟩)
  refine calls_intro (call_ok0 [] (ei) ?_ ?_ ?_ ?_ ?_ ?_) ?_
  any_goals (first | omega | (simp [nilL, nilV]; done) | (simp [nilL, nilV, *]; done))
  try simp only [go_sem, qA, qB, qC, qD, qE, qF, qG, qH]
  repeat (refine ⟨(by first | omega | (simp [-gD]; first | done | omega)), ?_⟩)
  try simp only [go_sem, qA, qB, qC, qD, qE, qF, qG, qH]
  repeat (refine ⟨(by first | omega | (simp [-gD]; first | done | omega)), ?_⟩)
  refine calls_intro (call_ok0 [(0, 22), (1, 23), (2, 24)] (markSource_ok w.1 1 (by omega) (by omega) (by omega) (by omega) (by omega)) ?_ ?_ ?_ ?_ ?_ ?_) ?_
  any_goals (first | omega | (simp [nilL, nilV]; done) | (simp [nilL, nilV, *]; done))
  try simp only [go_sem, qA, qB, qC, qD, qE, qF, qG, qH]
  repeat (refine ⟨(by first | omega | (simp [-gD]; first | done | omega)), ?_⟩)
  try simp only [go_sem, qA, qB, qC, qD, qE, qF, qG, qH]
  repeat (refine ⟨(by first | omega | (simp [-gD]; first | done | omega)), ?_⟩)
  refine calls_intro (call_ok0 [(0, 25)] (markIntS_ok w.2 (1 + wSource w.1) (by omega) (by omega)) ?_ ?_ ?_ ?_ ?_ ?_) ?_
  any_goals (first | omega | (simp [nilL, nilV]; done) | (simp [nilL, nilV, *]; done))
  try simp only [go_sem, qA, qB, qC, qD, qE, qF, qG, qH]
  repeat (refine ⟨(by first | omega | (simp [-gD]; first | done | omega)), ?_⟩)
  try simp only [go_sem, qA, qB, qC, qD, qE, qF, qG, qH]
  repeat (refine ⟨(by first | omega | (simp [-gD]; first | done | omega)), ?_⟩)
  refine calls_intro (call_ok0 [] (heldSource_ok w.1 1 (by omega) (by omega) (by omega) (by omega) (by omega)) ?_ ?_ ?_ ?_ ?_ ?_) ?_
  any_goals (first | omega | (simp [nilL, nilV]; done) | (simp [nilL, nilV, *]; done))
  try simp only [go_sem, qA, qB, qC, qD, qE, qF, qG, qH]
  repeat (refine ⟨(by first | omega | (simp [-gD]; first | done | omega)), ?_⟩)
  try simp only [go_sem, qA, qB, qC, qD, qE, qF, qG, qH, d1]
  repeat (refine ⟨(by first | omega | (simp [-gD]; first | done | omega)), ?_⟩)
  refine calls_intro (call_ok0 [] (heldIntS_ok w.2.length (1 + wSource w.1) (by omega) (by omega)) ?_ ?_ ?_ ?_ ?_ ?_) ?_
  any_goals (first | omega | (simp [nilL, nilV]; done) | (simp [nilL, nilV, *]; done))
  try simp only [go_sem, qA, qB, qC, qD, qE, qF, qG, qH]
  repeat (refine ⟨(by first | omega | (simp [-gD]; first | done | omega)), ?_⟩)
  try simp only [go_sem, qA, qB, qC, qD, qE, qF, qG, qH, d3]
  repeat (refine ⟨(by first | omega | (simp [-gD]; first | done | omega)), ?_⟩)
  apply join2
  · intro key
    repeat (refine ⟨(by first | omega | (simp [-gD]; first | done | omega)), ?_⟩)
    refine dcall_intro (call_ok0 [] (tp) ?_ ?_ ?_ ?_ ?_ ?_) ?_ ?_
    any_goals (first | omega | (simp [nilL, nilV]; done) | (simp [nilL, nilV, *]; done))
    try simp only [go_sem, qA, qB, qC, qD, qE, qF, qG, qH]
    repeat (refine ⟨(by first | omega | (simp [-gD]; first | done | omega)), ?_⟩)
    refine ⟨?_, ?_⟩
    · repeat (refine ⟨(by first | omega | (simp [-gD]; first | done | omega)), ?_⟩)
      refine dcall_intro (call_ok0 [] (ts) ?_ ?_ ?_ ?_ ?_ ?_) ?_ ?_
      any_goals (first | omega | (simp [nilL, nilV]; done) | (simp [nilL, nilV, *]; done))
      try simp only [go_sem, qA, qB, qC, qD, qE, qF, qG, qH]
      repeat (refine ⟨(by first | omega | (simp [-gD]; first | done | omega)), ?_⟩)
      refine ⟨?_, ?_⟩
      · repeat (refine ⟨(by first | omega | (simp [-gD]; first | done | omega)), ?_⟩)
        refine dcall_intro (call_ok0 [] (ti) ?_ ?_ ?_ ?_ ?_ ?_) ?_ ?_
        any_goals (first | omega | (simp [nilL, nilV]; done) | (simp [nilL, nilV, *]; done))
        try simp only [go_sem, qA, qB, qC, qD, qE, qF, qG, qH]
        repeat (refine ⟨(by first | omega | (simp [-gD]; first | done | omega)), ?_⟩)
        refine ⟨?_, ?_⟩
        · repeat (refine ⟨(by first | omega | (simp [-gD]; first | done | omega)), ?_⟩)
          refine dcall_intro (call_ok0 [] (ci) ?_ ?_ ?_ ?_ ?_ ?_) ?_ ?_
          any_goals (first | omega | (simp [nilL, nilV]; done) | (simp [nilL, nilV, *]; done))
          try simp only [go_sem, qA, qB, qC, qD, qE, qF, qG, qH]
          repeat (refine ⟨(by first | omega | (simp [-gD]; first | done | omega)), ?_⟩)
          try simp only [go_sem, qA, qB, qC, qD, qE, qF, qG, qH]
          repeat (refine ⟨(by first | omega | (simp [-gD]; first | done | omega)), ?_⟩)
          refine calls_mk (t := [(9, .ns 13 0 w.2.length), (13, .ptr 26 0 0), (14, .ns 25 0 w.2.length), (16, .int .i64 (1 + wSource w.1 + w.2.length)), (19, .ns 46 0 w.2.length), (133, .agg [.ns 43 0 w.1.ths.length, .ns 44 0 w.1.chs.length, .ns 45 0 w.1.tr.length]), (134, .agg [.ns 27 0 w.1.ths.length, .ns 28 0 w.1.chs.length, .ns 29 0 w.1.tr.length])]) (h := [(13, 1, ints w.2), (25, 1, ints (marks (1 + wSource w.1) w.2.length)), (26, 3, [sourceC .own (sourceMarks 1 w.1)]), (27, 3, threads .own w.1.ths), (28, 3, chans .own w.1.chs), (29, 2, notes w.1.tr), (43, 3, threads .own w.1.ths), (44, 3, chans .own w.1.chs), (45, 2, notes w.1.tr), (46, 1, ints w.2)]) (nx := 47) ?_ key.h
          refine Sub.trans (Sub.fold1 26 0 22 rfl (by simp [-gD] <;> omega) rfl (by decide) (by decide) rfl) ?_
          simp only [fS, qA, qC, mks_length]
          refine Sub.trans (Sub.fold1 26 1 23 rfl (by simp [-gD] <;> omega) rfl (by decide) (by decide) rfl) ?_
          simp only [fS, qA, qC, mks_length]
          refine Sub.trans (Sub.fold1 26 2 24 rfl (by simp [-gD] <;> omega) rfl (by decide) (by decide) rfl) ?_
          simp only [fS, qA, qC, mks_length]
          refine Sub.shape [] (fun n => if n = 43 then 42 else if n = 44 then 43 else if n = 45 then 44 else if n = 46 then 45 else n) (by omega) ?_ ?_ ?_ ?_ <;> simp [ints_rep]
        · repeat (refine ⟨(by first | omega | (simp [-gD]; first | done | omega)), ?_⟩)
          refine dcall_intro (call_ok0 [] (ci) ?_ ?_ ?_ ?_ ?_ ?_) ?_ ?_
          any_goals (first | omega | (simp [nilL, nilV]; done) | (simp [nilL, nilV, *]; done))
          try simp only [go_sem, qA, qB, qC, qD, qE, qF, qG, qH]
          repeat (refine ⟨(by first | omega | (simp [-gD]; first | done | omega)), ?_⟩)
          try simp only [go_sem, qA, qB, qC, qD, qE, qF, qG, qH]
          repeat (refine ⟨(by first | omega | (simp [-gD]; first | done | omega)), ?_⟩)
          refine calls_mk (t := [(9, .ns 13 0 w.2.length), (13, .ptr 26 0 0), (14, .ns 25 0 w.2.length), (16, .int .i64 (1 + wSource w.1 + w.2.length)), (19, .ns 46 0 w.2.length), (133, .agg [.ns 43 0 w.1.ths.length, .ns 44 0 w.1.chs.length, .ns 45 0 w.1.tr.length]), (134, .agg [.ns 27 0 w.1.ths.length, .ns 28 0 w.1.chs.length, .ns 29 0 w.1.tr.length])]) (h := [(13, 1, ints w.2), (25, 1, ints (marks (1 + wSource w.1) w.2.length)), (26, 3, [sourceC .own (sourceMarks 1 w.1)]), (27, 3, threads .own w.1.ths), (28, 3, chans .own w.1.chs), (29, 2, notes w.1.tr), (43, 3, threads .own w.1.ths), (44, 3, chans .own w.1.chs), (45, 2, notes w.1.tr), (46, 1, ints w.2)]) (nx := 47) ?_ key.h
          refine Sub.trans (Sub.fold1 26 0 22 rfl (by simp [-gD] <;> omega) rfl (by decide) (by decide) rfl) ?_
          simp only [fS, qA, qC, mks_length]
          refine Sub.trans (Sub.fold1 26 1 23 rfl (by simp [-gD] <;> omega) rfl (by decide) (by decide) rfl) ?_
          simp only [fS, qA, qC, mks_length]
          refine Sub.trans (Sub.fold1 26 2 24 rfl (by simp [-gD] <;> omega) rfl (by decide) (by decide) rfl) ?_
          simp only [fS, qA, qC, mks_length]
          refine Sub.shape [] id (by omega) ?_ ?_ ?_ ?_ <;> simp [ints_rep]
      · repeat (refine ⟨(by first | omega | (simp [-gD]; first | done | omega)), ?_⟩)
        refine dcall_intro (call_ok0 [] (ti) ?_ ?_ ?_ ?_ ?_ ?_) ?_ ?_
        any_goals (first | omega | (simp [nilL, nilV]; done) | (simp [nilL, nilV, *]; done))
        try simp only [go_sem, qA, qB, qC, qD, qE, qF, qG, qH]
        repeat (refine ⟨(by first | omega | (simp [-gD]; first | done | omega)), ?_⟩)
        refine dcall_intro (call_ok0 [] (ci) ?_ ?_ ?_ ?_ ?_ ?_) ?_ ?_
        any_goals (first | omega | (simp [nilL, nilV]; done) | (simp [nilL, nilV, *]; done))
        try simp only [go_sem, qA, qB, qC, qD, qE, qF, qG, qH]
        repeat (refine ⟨(by first | omega | (simp [-gD]; first | done | omega)), ?_⟩)
        try simp only [go_sem, qA, qB, qC, qD, qE, qF, qG, qH]
        repeat (refine ⟨(by first | omega | (simp [-gD]; first | done | omega)), ?_⟩)
        refine calls_mk (t := [(9, .ns 13 0 w.2.length), (13, .ptr 26 0 0), (14, .ns 25 0 w.2.length), (16, .int .i64 (1 + wSource w.1 + w.2.length)), (19, .ns 46 0 w.2.length), (133, .agg [.ns 43 0 w.1.ths.length, .ns 44 0 w.1.chs.length, .ns 45 0 w.1.tr.length]), (134, .agg [.ns 27 0 w.1.ths.length, .ns 28 0 w.1.chs.length, .ns 29 0 w.1.tr.length])]) (h := [(13, 1, ints w.2), (25, 1, ints (marks (1 + wSource w.1) w.2.length)), (26, 3, [sourceC .own (sourceMarks 1 w.1)]), (27, 3, threads .own w.1.ths), (28, 3, chans .own w.1.chs), (29, 2, notes w.1.tr), (43, 3, threads .own w.1.ths), (44, 3, chans .own w.1.chs), (45, 2, notes w.1.tr), (46, 1, ints w.2)]) (nx := 47) ?_ key.h
        refine Sub.trans (Sub.fold1 26 0 22 rfl (by simp [-gD] <;> omega) rfl (by decide) (by decide) rfl) ?_
        simp only [fS, qA, qC, mks_length]
        refine Sub.trans (Sub.fold1 26 1 23 rfl (by simp [-gD] <;> omega) rfl (by decide) (by decide) rfl) ?_
        simp only [fS, qA, qC, mks_length]
        refine Sub.trans (Sub.fold1 26 2 24 rfl (by simp [-gD] <;> omega) rfl (by decide) (by decide) rfl) ?_
        simp only [fS, qA, qC, mks_length]
        refine Sub.shape [] id (by omega) ?_ ?_ ?_ ?_ <;> simp [ints_rep]
    · repeat (refine ⟨(by first | omega | (simp [-gD]; first | done | omega)), ?_⟩)
      refine dcall_intro (call_ok0 [] (ts) ?_ ?_ ?_ ?_ ?_ ?_) ?_ ?_
      any_goals (first | omega | (simp [nilL, nilV]; done) | (simp [nilL, nilV, *]; done))
      try simp only [go_sem, qA, qB, qC, qD, qE, qF, qG, qH]
      repeat (refine ⟨(by first | omega | (simp [-gD]; first | done | omega)), ?_⟩)
      refine dcall_intro (call_ok0 [] (ti) ?_ ?_ ?_ ?_ ?_ ?_) ?_ ?_
      any_goals (first | omega | (simp [nilL, nilV]; done) | (simp [nilL, nilV, *]; done))
      try simp only [go_sem, qA, qB, qC, qD, qE, qF, qG, qH]
      repeat (refine ⟨(by first | omega | (simp [-gD]; first | done | omega)), ?_⟩)
      refine dcall_intro (call_ok0 [] (ci) ?_ ?_ ?_ ?_ ?_ ?_) ?_ ?_
      any_goals (first | omega | (simp [nilL, nilV]; done) | (simp [nilL, nilV, *]; done))
      try simp only [go_sem, qA, qB, qC, qD, qE, qF, qG, qH]
      repeat (refine ⟨(by first | omega | (simp [-gD]; first | done | omega)), ?_⟩)
      try simp only [go_sem, qA, qB, qC, qD, qE, qF, qG, qH]
      repeat (refine ⟨(by first | omega | (simp [-gD]; first | done | omega)), ?_⟩)
      refine calls_mk (t := [(9, .ns 13 0 w.2.length), (13, .ptr 26 0 0), (14, .ns 25 0 w.2.length), (16, .int .i64 (1 + wSource w.1 + w.2.length)), (19, .ns 46 0 w.2.length), (133, .agg [.ns 43 0 w.1.ths.length, .ns 44 0 w.1.chs.length, .ns 45 0 w.1.tr.length]), (134, .agg [.ns 27 0 w.1.ths.length, .ns 28 0 w.1.chs.length, .ns 29 0 w.1.tr.length])]) (h := [(13, 1, ints w.2), (25, 1, ints (marks (1 + wSource w.1) w.2.length)), (26, 3, [sourceC .own (sourceMarks 1 w.1)]), (27, 3, threads .own w.1.ths), (28, 3, chans .own w.1.chs), (29, 2, notes w.1.tr), (43, 3, threads .own w.1.ths), (44, 3, chans .own w.1.chs), (45, 2, notes w.1.tr), (46, 1, ints w.2)]) (nx := 47) ?_ key.h
      refine Sub.trans (Sub.fold1 26 0 22 rfl (by simp [-gD] <;> omega) rfl (by decide) (by decide) rfl) ?_
      simp only [fS, qA, qC, mks_length]
      refine Sub.trans (Sub.fold1 26 1 23 rfl (by simp [-gD] <;> omega) rfl (by decide) (by decide) rfl) ?_
      simp only [fS, qA, qC, mks_length]
      refine Sub.trans (Sub.fold1 26 2 24 rfl (by simp [-gD] <;> omega) rfl (by decide) (by decide) rfl) ?_
      simp only [fS, qA, qC, mks_length]
      refine Sub.shape [] id (by omega) ?_ ?_ ?_ ?_ <;> simp [ints_rep]
  · intro key
    repeat (refine ⟨(by first | omega | (simp [-gD]; first | done | omega)), ?_⟩)
    refine dcall_intro (call_ok0 [] (tp) ?_ ?_ ?_ ?_ ?_ ?_) ?_ ?_
    any_goals (first | omega | (simp [nilL, nilV]; done) | (simp [nilL, nilV, *]; done))
    try simp only [go_sem, qA, qB, qC, qD, qE, qF, qG, qH]
    repeat (refine ⟨(by first | omega | (simp [-gD]; first | done | omega)), ?_⟩)
    refine dcall_intro (call_ok0 [] (ts) ?_ ?_ ?_ ?_ ?_ ?_) ?_ ?_
    any_goals (first | omega | (simp [nilL, nilV]; done) | (simp [nilL, nilV, *]; done))
    try simp only [go_sem, qA, qB, qC, qD, qE, qF, qG, qH]
    repeat (refine ⟨(by first | omega | (simp [-gD]; first | done | omega)), ?_⟩)
    refine dcall_intro (call_ok0 [] (ti) ?_ ?_ ?_ ?_ ?_ ?_) ?_ ?_
    any_goals (first | omega | (simp [nilL, nilV]; done) | (simp [nilL, nilV, *]; done))
    try simp only [go_sem, qA, qB, qC, qD, qE, qF, qG, qH]
    repeat (refine ⟨(by first | omega | (simp [-gD]; first | done | omega)), ?_⟩)
    refine dcall_intro (call_ok0 [] (ci) ?_ ?_ ?_ ?_ ?_ ?_) ?_ ?_
    any_goals (first | omega | (simp [nilL, nilV]; done) | (simp [nilL, nilV, *]; done))
    try simp only [go_sem, qA, qB, qC, qD, qE, qF, qG, qH]
    repeat (refine ⟨(by first | omega | (simp [-gD]; first | done | omega)), ?_⟩)
    try simp only [go_sem, qA, qB, qC, qD, qE, qF, qG, qH]
    repeat (refine ⟨(by first | omega | (simp [-gD]; first | done | omega)), ?_⟩)
    refine calls_mk (t := [(9, .ns 13 0 w.2.length), (13, .ptr 26 0 0), (14, .ns 25 0 w.2.length), (16, .int .i64 (1 + wSource w.1 + w.2.length)), (19, .ns 46 0 w.2.length), (133, .agg [.ns 43 0 w.1.ths.length, .ns 44 0 w.1.chs.length, .ns 45 0 w.1.tr.length]), (134, .agg [.ns 27 0 w.1.ths.length, .ns 28 0 w.1.chs.length, .ns 29 0 w.1.tr.length])]) (h := [(13, 1, ints w.2), (25, 1, ints (marks (1 + wSource w.1) w.2.length)), (26, 3, [sourceC .own (sourceMarks 1 w.1)]), (27, 3, threads .own w.1.ths), (28, 3, chans .own w.1.chs), (29, 2, notes w.1.tr), (43, 3, threads .own w.1.ths), (44, 3, chans .own w.1.chs), (45, 2, notes w.1.tr), (46, 1, ints w.2)]) (nx := 47) ?_ key.h
    refine Sub.trans (Sub.fold1 26 0 22 rfl (by simp [-gD] <;> omega) rfl (by decide) (by decide) rfl) ?_
    simp only [fS, qA, qC, mks_length]
    refine Sub.trans (Sub.fold1 26 1 23 rfl (by simp [-gD] <;> omega) rfl (by decide) (by decide) rfl) ?_
    simp only [fS, qA, qC, mks_length]
    refine Sub.trans (Sub.fold1 26 2 24 rfl (by simp [-gD] <;> omega) rfl (by decide) (by decide) rfl) ?_
    simp only [fS, qA, qC, mks_length]
    refine Sub.shape [] id (by omega) ?_ ?_ ?_ ?_ <;> simp [ints_rep]
  refine calls_intro (call_ok0 [] (ew) ?_ ?_ ?_ ?_ ?_ ?_) ?_
  any_goals (first | omega | (simp [nilL, nilV]; done) | (simp [nilL, nilV, *]; done))
  try simp only [go_sem, qA, qB, qC, qD, qE, qF, qG, qH]
  repeat (refine ⟨(by first | omega | (simp [-gD]; first | done | omega)), ?_⟩)
  try simp only [go_sem, qA, qB, qC, qD, qE, qF, qG, qH]
  repeat (refine ⟨(by first | omega | (simp [-gD]; first | done | omega)), ?_⟩)
  refine calls_intro (call_ok0 [] (ei) ?_ ?_ ?_ ?_ ?_ ?_) ?_
  any_goals (first | omega | (simp [nilL, nilV]; done) | (simp [nilL, nilV, *]; done))
  try simp only [go_sem, qA, qB, qC, qD, qE, qF, qG, qH]
  repeat (refine ⟨(by first | omega | (simp [-gD]; first | done | omega)), ?_⟩)
  try simp only [go_sem, qA, qB, qC, qD, qE, qF, qG, qH]
  repeat (refine ⟨(by first | omega | (simp [-gD]; first | done | omega)), ?_⟩)
  refine calls_intro (call_ok0 [] (heldSource_ok w.1 1 (by omega) (by omega) (by omega) (by omega) (by omega)) ?_ ?_ ?_ ?_ ?_ ?_) ?_
  any_goals (first | omega | (simp [nilL, nilV]; done) | (simp [nilL, nilV, *]; done))
  try simp only [go_sem, qA, qB, qC, qD, qE, qF, qG, qH]
  repeat (refine ⟨(by first | omega | (simp [-gD]; first | done | omega)), ?_⟩)
  try simp only [go_sem, qA, qB, qC, qD, qE, qF, qG, qH, d1]
  repeat (refine ⟨(by first | omega | (simp [-gD]; first | done | omega)), ?_⟩)
  refine calls_intro (call_ok0 [] (heldIntS_ok w.2.length (1 + wSource w.1) (by omega) (by omega)) ?_ ?_ ?_ ?_ ?_ ?_) ?_
  any_goals (first | omega | (simp [nilL, nilV]; done) | (simp [nilL, nilV, *]; done))
  try simp only [go_sem, qA, qB, qC, qD, qE, qF, qG, qH]
  repeat (refine ⟨(by first | omega | (simp [-gD]; first | done | omega)), ?_⟩)
  try simp only [go_sem, qA, qB, qC, qD, qE, qF, qG, qH, d3]
  repeat (refine ⟨(by first | omega | (simp [-gD]; first | done | omega)), ?_⟩)
  refine ⟨_, Sub.refl _, ?_⟩; simp [FinS, nilL, nilV, oneOr, -List.drop_one]


end Go.Sep
