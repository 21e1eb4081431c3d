/- Contracts of functions. -/
import Derived.Test.YtknndifegfbaaaaConl
import Derived.Test.YtknndifegfbaaaaConn
namespace Go.Sep
open Go.Proofs
set_option linter.unusedSimpArgs false
set_option linter.unusedVariables false
set_option maxRecDepth 100000
open Nat renaming reduceAdd → qA, reduceMul → qB, reduceEqDiff → qC, reduceBEq → qD
open Int renaming reduceToNat → qE, reduceEq → qF, reduceLT → qG, reduceLE → qH
open List renaming getD_eq_getElem?_getD → gD
attribute [local go_sem] paramT preH e_seq e_reg e_block e_loop e_ops e_skip e_ret e_cond e_guard e_call e_ops1 plan next_ok next_some Arg.ev lookT putD putT if_false if_true app1 put del ints_length binA Option.map_some Option.bind_some look Int.toNat_natCast e_blk e_stop e_exit exitIt true_and and_true maybe_do maybe_tf maybe_ft branch_true branch_false Bool.false_eq_true bnd? cellsOf openL List.isEmpty_nil List.isEmpty_cons fresh List.map_nil List.map_cons List.cons_append List.nil_append splice List.take_zero List.drop_zero List.take_succ_cons List.getD_cons_zero List.length_cons List.length_nil List.drop_succ_cons List.drop_nil List.append_nil List.all_cons List.all_nil cellOk Bool.and_self Nat.zero_add e_dreg e_done e_take e_only1 e_onlyc e_takeg e_onlyg e_both dnext_some dnext_ok dmaybe_do rdTake pdTake addP rdOnly pdOnly isRead alive needs undep apart List.filter_nil List.filter_cons Option.isSome_some Option.isSome_none List.contains_nil List.contains_cons List.forall_mem_cons List.mem_cons List.not_mem_nil false_implies implies_true forall_const forall_eq_or_imp forall_eq or_false beq_self_eq_true Bool.or_false Bool.false_or Bool.true_or Bool.or_true Bool.not_true Bool.not_false xv xo xg xr xi xz List.set_set maybe_skip dmaybe_skip dmaybe_tf dmaybe_ft fillR fillROk fillA fillOk srcA eqC bytesOf ints_append List.replicate_zero decide_true decide_false ints_set nil_bind List.replicate_succ Int.toNat_zero Int.toNat_one eq_self Bool.and_true Bool.true_and Bool.and_false Bool.false_and List.set_cons_zero List.set_cons_succ List.getD_cons_succ rnm ixm renV renL openV openVs cond_true cond_false ints_drop ints_take drop_all
attribute [local simp] hand bwT bwC bwL ints_bw ints_take lookT Arg.ev handOk bwOk bwOks bwTs nf_sl nf_int nf_bool ints_bnd okV okL nb nbs nbr ints_nb look ints_length bnd bnds bndr renV renL ixm rnm apart needs rdOnly pdOnly fresh openV openVs resAV allP giveL giveV postH del isOwn partR ints_drop drop_all shp okB okBs ints_free
attribute [local go_sem] inss_length inss_append inss_drop inss_take inss_set insC bodies_length bodies_append bodies_drop bodies_take bodies_set intss_length intss_append intss_drop intss_take intss_set chans_length chans_append chans_drop chans_take chans_set chanC notes_length notes_append notes_drop notes_take notes_set noteC threads_length threads_append threads_drop threads_take threads_set threadC wents_length wents_append wents_drop wents_take wents_set wentC progs_length progs_append progs_drop progs_take progs_set progC sources_length sources_append sources_drop sources_take sources_set sourceC bys_length bys_append bys_drop bys_take bys_set
attribute [local simp] nilL_cons nilL_nil nilV_agg nilV_tup nilV_nilsl nilV_nil nilV_sl nilV_int nilV_bool nilV_str nilV_ns nilV_ptr nilRs_cons nilRs_nil free_nil free_cons inss_nil inss_bw inss_bnd inss_nb inss_length inss_take inss_drop inss_free bodies_nil bodies_bw bodies_bnd bodies_nb bodies_length bodies_take bodies_drop bodies_free intss_nil intss_bw intss_bnd intss_nb intss_length intss_take intss_drop intss_free chans_nil chans_bw chans_bnd chans_nb chans_length chans_take chans_drop chans_free notes_nil notes_bw notes_bnd notes_nb notes_length notes_take notes_drop notes_free threads_nil threads_bw threads_bnd threads_nb threads_length threads_take threads_drop threads_free wents_nil wents_bw wents_bnd wents_nb wents_length wents_take wents_drop wents_free progs_nil progs_bw progs_bnd progs_nb progs_length progs_take progs_drop progs_free sources_nil sources_bw sources_bnd sources_nb sources_length sources_take sources_drop sources_free bys_nil bys_bw bys_bnd bys_nb bys_length bys_take bys_drop bys_free curC insC chanC noteC threadC wentC progC sourceC

/-- A run by picks: the source, and the codes. -/
def runStep (p : Prog) (st : Source × List Int) (who : Int) : Source × List Int := ((sourceStep p st.1 who).1, st.2 ++ [(sourceStep p st.1 who).2])
def runF (p : Prog) (s : Source) (picks : List Int) : Source × List Int := picks.foldl (runStep p) (s, [])
def sourceRun (p : Prog) (s : Source) (picks : List Int) : Source × List Int := if sourceOk p s && decide ((picks.length : Int) ≤ 4000) then runF p s picks else (s, [])

theorem sourceStep_keeps {p : Prog} {s : Source} (who : Int) (h : sourceOk p s = true) : sourceOk p (sourceStep p s who).1 = true := by
  unfold sourceStep
  split
  · rename_i hc
    obtain ⟨w0, w1⟩ := code_in hc
    refine sourceOk_step h w1 fun h10 => ?_
    have hn := notesOk_len h
    unfold sourceCode at hc
    split at hc
    · simp at hc
    · split at hc
      · simp at hc
      · rename_i hx
        have : ¬ (s.tr.length : Int) = 4000 := fun e => hx (.inr ⟨h10, e⟩)
        omega
  · exact h

theorem runFold_ok {p : Prog} {s : Source} (h : sourceOk p s = true) (picks : List Int) : ∀ i, i ≤ picks.length → sourceOk p ((picks.take i).foldl (runStep p) (s, [])).1 = true ∧ ((picks.take i).foldl (runStep p) (s, [])).2.length = i
  | 0, _ => ⟨h, rfl⟩
  | i + 1, hi => by
    have ih := runFold_ok h picks i (by omega)
    rw [take_snoc picks 0 i (by omega), List.foldl_append]
    exact ⟨sourceStep_keeps _ ih.1, by simp only [List.foldl_cons, List.foldl_nil, runStep, List.length_append, ih.2]; rfl⟩
theorem run_fold (p : Prog) (picks : List Int) (i : Nat) (h : i < picks.length) (st : Source × List Int) : (picks.take (i + 1)).foldl (runStep p) st = runStep p ((picks.take i).foldl (runStep p) st) (picks.getD i 0) := by
  rw [take_snoc picks 0 i h, List.foldl_append]
  rfl

set_option maxHeartbeats 4000000 in
theorem implSourceRun_ok (p : Prog) (s : Source) (picks : List Int) (hp : SmallP p) (hs : Small s) (h4 : picks.length < 2 ^ 40) :
    CallOk Try.prog num 25 [.agg (progC .bw p), .agg (sourceC .bw s), .sl .bw 1 (ints picks)] [] (.tup [.agg (sourceC .own (sourceRun p s picks).1), .sl .own 1 (ints (sourceRun p s picks).2)]) := by
  refine enter (m := m25) (f := 25) (fn := Try.f25) Try.func25 (by kernel_rfl) rfl c25 rfl (by simp [Try.f25]) (by simp [bnds, bnd, nf_sl, nf_int, nf_bool, nf_str, ints_bnd]) (fun _ _ h => by simp [preH, look] at h) ?_
  unfold m25
  simp only [go_sem, qA, qB, qC, qD, qE, qF, qG, qH]
  repeat (refine ⟨(by first | omega | (simp [-gD]; first | done | omega)), ?_⟩)
  refine calls_intro (call_ok0 [] (copySource_ok s hs) ?_ ?_ ?_ ?_ ?_ ?_) ?_
  any_goals (first | omega | (simp [nilL, nilV]; done) | (simp [nilL, nilV, *]; done))
  try simp only [go_sem, qA, qB, qC, qD, qE, qF, qG, qH]
  repeat (refine ⟨(by first | omega | (simp [-gD]; first | done | omega)), ?_⟩)
  by_cases hl : (4000 : Int) < picks.length
  · have hl' : ¬ (picks.length : Int) ≤ 4000 := by omega
    try simp only [go_sem, qA, qB, qC, qD, qE, qF, qG, qH, hl]
    repeat (refine ⟨(by first | omega | (simp [-gD]; first | done | omega)), ?_⟩)
    apply fin_tup (by simp)
    · exact Sub.refl _
    · simp [-List.drop_one, -gD, sourceRun, hl', ints_nil] <;> (first | rfl | exact ⟨rfl, rfl⟩ | exact ⟨rfl, rfl, rfl⟩ | skip)
  have hl' : (picks.length : Int) ≤ 4000 := by omega
  try simp only [go_sem, qA, qB, qC, qD, qE, qF, qG, qH, hl]
  repeat (refine ⟨(by first | omega | (simp [-gD]; first | done | omega)), ?_⟩)
  refine calls_intro (call_ok0 [] (implSourceOk_ok p s hp hs) ?_ ?_ ?_ ?_ ?_ ?_) ?_
  any_goals (first | omega | (simp [nilL, nilV]; done) | (simp [nilL, nilV, *]; done))
  try simp only [go_sem, qA, qB, qC, qD, qE, qF, qG, qH]
  repeat (refine ⟨(by first | omega | (simp [-gD]; first | done | omega)), ?_⟩)
  cases hok : sourceOk p s
  · try simp only [go_sem, qA, qB, qC, qD, qE, qF, qG, qH, hok]
    repeat (refine ⟨(by first | omega | (simp [-gD]; first | done | omega)), ?_⟩)
    apply fin_tup (by simp)
    · exact Sub.refl _
    · simp [-List.drop_one, -gD, sourceRun, hok, ints_nil] <;> (first | rfl | exact ⟨rfl, rfl⟩ | exact ⟨rfl, rfl, rfl⟩ | skip)
  try simp only [go_sem, qA, qB, qC, qD, qE, qF, qG, qH, hok]
  repeat (refine ⟨(by first | omega | (simp [-gD]; first | done | omega)), ?_⟩)
  refine loop_intro (ι := Nat) (fun i => .mk [(3, .ptr 10 0 0), (6, .ptr 12 0 0), (8, .ptr 16 0 0), (9, .ns 17 0 i), (27, .sl .bw 1 (ints picks)), (28, .int .i64 picks.length), (29, .int .i64 i)] [(10, 2, [progC .bw p]), (12, 3, [[.nil, .nil, .nil]]), (16, 3, [sourceC .own ((picks.take i).foldl (runStep p) (s, [])).1]), (17, 1, ints ((picks.take i).foldl (runStep p) (s, [])).2)] 18) (fun i => i ≤ picks.length) (fun i => picks.length - i) 0 (by simp) ?_ ?_
  · refine Sub.trans (Sub.fold1 16 0 13 rfl (by simp [-gD] <;> omega) rfl (by decide) (by decide) rfl) ?_
    simp only [fS, qA, qC]
    refine Sub.trans (Sub.fold1 16 1 14 rfl (by simp [-gD] <;> omega) rfl (by decide) (by decide) rfl) ?_
    simp only [fS, qA, qC]
    refine Sub.trans (Sub.fold1 16 2 15 rfl (by simp [-gD] <;> omega) rfl (by decide) (by decide) rfl) ?_
    simp only [fS, qA, qC]
    refine Sub.shape [] id (by omega) ?_ ?_ ?_ ?_ <;> simp [ints_rep]
    exact .inl rfl
  · intro i hi
    have hr := runFold_ok hok picks i hi
    have hstep := fun h => run_fold p picks i h (s, [])
    have hfin : ¬ (i : Int) < picks.length → (picks.take i).foldl (runStep p) (s, []) = runF p s picks := fun h => by rw [List.take_of_length_le (by omega)]; rfl
    generalize (picks.take i).foldl (runStep p) (s, []) = st at hr hstep hfin
    obtain ⟨hso, hlen⟩ := hr
    have hss := small_of hso
    have htr := notesOk_len hso
    simp only [go_sem, qA, qB, qC, qD, qE, qF, qG, qH]
    refine branch_intro (fun hc => ?_) (fun hc => ?_)
    · simp only [decide_eq_true_eq] at hc
      have hl2 : i < picks.length := by omega
      simp only [go_sem, qA, qB, qC, qD, qE, qF, qG, qH, ints_getD picks i hl2]
      repeat (refine ⟨(by first | omega | (simp [-gD]; first | done | omega)), ?_⟩)
      refine calls_intro (call_ok0 [(0, 16)] (sourceStep_ok p st.1 (picks.getD i 0) hp hss hso htr) ?_ ?_ ?_ ?_ ?_ ?_) ?_
      any_goals (first | omega | (simp [nilL, nilV]; done) | (simp [nilL, nilV, *]; done))
      try simp only [go_sem, qA, qB, qC, qD, qE, qF, qG, qH]
      repeat (refine ⟨(by first | omega | (simp [-gD]; first | done | omega)), ?_⟩)
      try simp only [go_sem, qA, qB, qC, qD, qE, qF, qG, qH, wrap_succ (i := i) (by omega), hlen]
      repeat (refine ⟨(by first | omega | (simp [-gD]; first | done | omega)), ?_⟩)
      refine back_intro (i + 1) ?_ hl2 (by omega)
      simp only [hstep hl2, runStep]
      refine Sub.shape [] (fun n => if n = 17 then 19 else n) (by omega) ?_ ?_ ?_ ?_ <;> simp [ints_rep]
      all_goals exact .inl (ints_snoc _ _)
    · simp only [decide_eq_false_iff_not] at hc
      have hf := hfin hc
      simp only [go_sem, qA, qB, qC, qD, qE, qF, qG, qH]
      repeat (refine ⟨(by first | omega | (simp [-gD]; first | done | omega)), ?_⟩)
      apply fin_tup (by simp)
      · exact Sub.refl _
      · simp [-List.drop_one, -gD, sourceRun, hok, hl', hlen, ← hf] <;> (first | rfl | exact ⟨rfl, rfl⟩ | exact ⟨rfl, rfl, rfl⟩ | skip)

/-- What a step does to the channels: at most the place's own channel turns, by one number. -/
inductive ChStep (a b : List Int) : Prop where
  | same (h : b = a)
  | put (v : Int) (h : b = a ++ [v])
  | get (h0 : 0 < a.length) (h : b = a.drop 1)

theorem chanStep_list {t : Thread} {c : Chan} {x : Ins} : ChStep c.list (chanStep t c x).2.1.list := by
  unfold chanStep
  split
  · rcases send_list c (reg t x.a) with h | h
    · exact .same h
    · exact .put _ h
  · split
    · rcases take_list c with h | ⟨h0, h⟩
      · exact .same h
      · simp only [h]
        exact .get h0 rfl
    · exact .same (close_list c)

theorem doStep_chs {p : Prog} {s : Source} {i : Nat} (h : sourceOk p s = true) (hi : i < s.ths.length) :
    (within (ins p s i).op 5 8 = true ∧ (ins p s i).n.toNat < s.chs.length ∧ ∃ c, (doStep p s i).chs = s.chs.set (ins p s i).n.toNat c ∧ ChStep (s.chs.getD (ins p s i).n.toNat default).list c.list) ∨
    (within (ins p s i).op 5 8 = false ∧ ∀ j, ((doStep p s i).chs.getD j default).list = (s.chs.getD j default).list) := by
  have ha := at_of h hi
  have hop := ha.op
  by_cases hw : 5 ≤ (ins p s i).op ∧ (ins p s i).op ≤ 9
  · obtain ⟨n0, n1⟩ := ha.ch hw.1 hw.2
    have e := doStep_chan hw.1 hw.2
    by_cases h9 : (ins p s i).op = 9
    · right
      refine ⟨by rw [within_eq]; simp [-List.getD_eq_getElem?_getD]; omega, fun j => ?_⟩
      rw [e, goTo_chs]
      simp only
      rw [getD_set_of _ _ _ _ _ n1]
      split
      · rename_i hj
        subst hj
        have : (chanStep (s.ths.getD i default) (s.chs.getD (ins p s i).n.toNat default) (ins p s i)).2.1 = (chanClose (s.chs.getD (ins p s i).n.toNat default)).1 := by
          unfold chanStep
          rw [if_neg (by omega), if_neg (by omega)]
        rw [this, close_list]
      · rfl
    · left
      refine ⟨by rw [within_iff]; omega, n1, _, by rw [e, goTo_chs], chanStep_list⟩
  · right
    refine ⟨by rw [within_eq]; simp [-List.getD_eq_getElem?_getD]; omega, fun j => ?_⟩
    unfold doStep
    split
    · rw [goTo_chs]
    · split
      · rw [goTo_chs]
      · split
        · rw [goTo_chs]
        · split
          · rw [goTo_chs]
          · split
            · rw [goTo_chs]
            · split
              · rfl
              · omega

/-- All that went in came out, or is held. -/
def Flow (st : Source × List Went) : Prop := ∀ j, (st.2.getD j default).sent = (st.2.getD j default).taken ++ (st.1.chs.getD j default).list

theorem flow_step {p : Prog} {st : Source × List Went} {i : Nat} {who : Int} (h : RunOk p st i) (hf : Flow st) : Flow (wentStep p st who) := by
  unfold wentStep
  split
  · rename_i hc
    obtain ⟨w0, w1⟩ := code_in hc
    have hlen : st.2.length = st.1.chs.length := by
      have := ((sourceOk_iff p st.1).1 h.ok).2.2.1
      rw [h.len, this]
    intro j
    simp only
    rcases doStep_chs h.ok w1 with ⟨hw, n1, c, hc1, hc2⟩ | ⟨hw, hc1⟩
    · have gs : (doStep p st.1 who.toNat).chs.getD (ins p st.1 who.toNat).n.toNat default = c := by rw [hc1, getD_set_self _ _ _ _ n1]
      have gj : ∀ j, (doStep p st.1 who.toNat).chs.getD j default = if j = (ins p st.1 who.toNat).n.toNat then c else st.1.chs.getD j default := fun j => by rw [hc1, getD_set_of _ _ _ _ _ n1]
      have fj := hf j
      have fn := hf (ins p st.1 who.toNat).n.toNat
      have n2 : (ins p st.1 who.toNat).n.toNat < st.2.length := by omega
      rw [gs, gj j]
      unfold l27F
      rw [if_neg (by rw [hw]; simp)]
      generalize (ins p st.1 who.toNat).n.toNat = n at *
      cases hc2 with
      | same hl =>
        rw [if_neg (by rw [hl]; omega), if_neg (by rw [hl]; omega)]
        split
        · rename_i hj; rw [hj, hl]; exact fn
        · exact fj
      | put v hl =>
        rw [if_pos (by rw [hl]; simp)]
        rw [getD_set_of _ _ _ _ _ n2]
        split
        · rename_i hj
          simp only [hl]
          rw [fn]
          simp [List.getD_eq_getElem?_getD]
        · exact fj
      | get h0 hl =>
        rw [if_neg (by rw [hl, List.length_drop]; omega), if_pos (by rw [hl, List.length_drop]; omega)]
        rw [getD_set_of _ _ _ _ _ n2]
        split
        · rename_i hj
          simp only [hl]
          rw [fn]
          cases hlist : (st.1.chs.getD n default).list with
          | nil => rw [hlist] at h0; simp at h0
          | cons a l => simp
        · exact fj
    · unfold l27F
      rw [if_pos hw, hc1 j]
      exact hf j
  · exact hf

theorem flow_run {p : Prog} (h : progOk p = true) (picks : List Int) : ∀ i, i ≤ picks.length → Flow ((picks.take i).foldl (wentStep p) ((sourceNew p).1, List.replicate p.caps.length ⟨[], []⟩))
  | 0, _ => by
    intro j
    simp only [List.take_zero, List.foldl_nil, sourceNew, h, if_true]
    by_cases hj : j < p.caps.length
    · simp [List.getD_eq_getElem?_getD, hj]
    · simp [List.getD_eq_getElem?_getD, List.getElem?_eq_none (show (p.caps.map fun c => (⟨c, [], false⟩ : Chan)).length ≤ j by simp; omega), List.getElem?_eq_none (show (List.replicate p.caps.length (⟨[], []⟩ : Went)).length ≤ j by simp; omega)]
      rfl
  | i + 1, hi => by
    rw [List.take_succ_eq_append_getElem (by omega), List.foldl_append]
    exact flow_step (runOk h picks i (by omega)) (flow_run h picks i (by omega))

theorem run_same {p : Prog} (s : Source) (ws : List Went) (cs : List Int) : ∀ (picks : List Int), (picks.foldl (runStep p) (s, cs)).1 = (picks.foldl (wentStep p) (s, ws)).1
  | [] => rfl
  | a :: l => by
    simp only [List.foldl_cons]
    have e : (wentStep p (s, ws) a).1 = (runStep p (s, cs) a).1 := by
      unfold wentStep runStep sourceStep
      simp only
      split <;> rfl
    have h1 : runStep p (s, cs) a = ((runStep p (s, cs) a).1, (runStep p (s, cs) a).2) := rfl
    have h2 : wentStep p (s, ws) a = ((runStep p (s, cs) a).1, (wentStep p (s, ws) a).2) := by rw [← e]
    rw [h1, h2]
    exact run_same _ _ _ l

/-- What the law FnWent asks of what went through. -/
theorem went_law {p : Prog} {picks : List Int} (h : (wentOf p picks).2 = true) :
    (wentOf p picks).1.length = (sourceRun p (sourceNew p).1 picks).1.chs.length ∧ ∀ i, i < (wentOf p picks).1.length → begins ((wentOf p picks).1.getD i default).taken ((wentOf p picks).1.getD i default).sent = true ∧
      held ((wentOf p picks).1.getD i default).sent ((wentOf p picks).1.getD i default).taken = ((sourceRun p (sourceNew p).1 picks).1.chs.getD i default).list := by
  unfold wentOf at h ⊢
  split at h
  · rename_i hc
    rw [if_pos hc]
    simp only [Bool.and_eq_true, decide_eq_true_eq] at hc
    have hn := sourceNew_ok hc.1
    have hr := runOk hc.1 picks picks.length (Nat.le_refl _)
    have hf := flow_run hc.1 picks picks.length (Nat.le_refl _)
    rw [List.take_length] at hr hf
    have es : (sourceRun p (sourceNew p).1 picks).1 = (wentRun p picks).1 := by
      unfold sourceRun runF wentRun
      rw [if_pos (by simp [hn, hc.2])]
      exact run_same _ _ _ _
    rw [es]
    change RunOk p (wentRun p picks) _ at hr
    change Flow (wentRun p picks) at hf
    refine ⟨?_, fun i hi => ?_⟩
    · have := ((sourceOk_iff p _).1 hr.ok).2.2.1
      have h2 := hr.len
      simp only
      omega
    · have e := hf i
      simp only
      have hb : begins ((wentRun p picks).2.getD i default).taken ((wentRun p picks).2.getD i default).sent = true := by
        rw [e]
        simp [begins, -List.getD_eq_getElem?_getD]
      refine ⟨hb, ?_⟩
      unfold held
      rw [if_pos hb, e]
      simp [-List.getD_eq_getElem?_getD]
  · simp at h

set_option maxHeartbeats 8000000 in
theorem fnWent_ok (code : List Int) : CallOk Try.prog num 18 [.sl .fz 1 (bys code)] [] (.bool true) := by
  refine enter (m := m18) (f := 18) (fn := Try.f5) Try.func5 (by kernel_rfl) rfl c18 rfl (by simp [Try.f5]) (by simp [bnds, bnd, nf_sl, nf_int, nf_bool, nf_str, ints_bnd]) (fun _ _ h => by simp [preH, look] at h) ?_
  unfold m18
  simp only [go_sem, qA, qB, qC, qD, qE, qF, qG, qH]
  repeat (refine ⟨(by first | omega | (simp [-gD]; first | done | omega)), ?_⟩)
  refine calls_intro (call_ok0 [] (big_ok code) ?_ ?_ ?_ ?_ ?_ ?_) ?_
  any_goals (first | omega | (simp [nilL, nilV]; done) | (simp [nilL, nilV, *]; done))
  try simp only [go_sem, qA, qB, qC, qD, qE, qF, qG, qH]
  repeat (refine ⟨(by first | omega | (simp [-gD]; first | done | omega)), ?_⟩)
  by_cases hbig : (1048576 : Int) < code.length
  · try simp only [go_sem, qA, qB, qC, qD, qE, qF, qG, qH, hbig]
    repeat (refine ⟨(by first | omega | (simp [-gD]; first | done | omega)), ?_⟩)
    refine ⟨_, Sub.refl _, ?_⟩; simp [FinS, nilL, nilV, oneOr, -List.drop_one]
  have hb : code.length < 2 ^ 62 := by omega
  try simp only [go_sem, qA, qB, qC, qD, qE, qF, qG, qH, hbig]
  repeat (refine ⟨(by first | omega | (simp [-gD]; first | done | omega)), ?_⟩)
  refine calls_intro (call_ok0 [] (drawWentOf_ok code hb) ?_ ?_ ?_ ?_ ?_ ?_) ?_
  any_goals (first | omega | (simp [nilL, nilV]; done) | (simp [nilL, nilV, *]; done))
  try simp only [go_sem, qA, qB, qC, qD, qE, qF, qG, qH]
  repeat (refine ⟨(by first | omega | (simp [-gD]; first | done | omega)), ?_⟩)
  obtain ⟨z1, z2, z3, z4⟩ := wentDraw_small code
  generalize wentDraw code = w at z1 z2 z3 z4
  obtain ⟨p, picks⟩ := w
  simp only at z1 z2 z3 z4 ⊢
  try simp only [go_sem, qA, qB, qC, qD, qE, qF, qG, qH]
  repeat (refine ⟨(by first | omega | (simp [-gD]; first | done | omega)), ?_⟩)
  refine calls_intro (call_ok0 [] (implWentOf_ok p picks (by omega) (by omega) (fun b hb => by have := z3 b hb; omega) (by omega)) ?_ ?_ ?_ ?_ ?_ ?_) ?_
  any_goals (first | omega | (simp [nilL, nilV]; done) | (simp [nilL, nilV, *]; done))
  try simp only [go_sem, qA, qB, qC, qD, qE, qF, qG, qH]
  repeat (refine ⟨(by first | omega | (simp [-gD]; first | done | omega)), ?_⟩)
  try simp only [go_sem, qA, qB, qC, qD, qE, qF, qG, qH]
  repeat (refine ⟨(by first | omega | (simp [-gD]; first | done | omega)), ?_⟩)
  refine calls_intro (call_ok0 [] (specWentOf_ok p picks (by omega) (by omega) (fun b hb => by have := z3 b hb; omega) (by omega)) ?_ ?_ ?_ ?_ ?_ ?_) ?_
  any_goals (first | omega | (simp [nilL, nilV]; done) | (simp [nilL, nilV, *]; done))
  try simp only [go_sem, qA, qB, qC, qD, qE, qF, qG, qH]
  repeat (refine ⟨(by first | omega | (simp [-gD]; first | done | omega)), ?_⟩)
  have hlaw := went_law (p := p) (picks := picks)
  have hwl : (wentOf p picks).1.length ≤ 3 ∧ (∀ w ∈ (wentOf p picks).1, w.sent.length ≤ 4000 ∧ w.taken.length ≤ 4000) ∧ ((wentOf p picks).2 = false → (wentOf p picks).1 = []) ∧ ((wentOf p picks).2 = true → progOk p = true) := by
    unfold wentOf
    split
    · rename_i h
      simp only [Bool.and_eq_true, decide_eq_true_eq] at h
      have hr := runOk h.1 picks picks.length (Nat.le_refl _)
      rw [List.take_length] at hr
      have hp := h.1
      simp only [progOk, Bool.and_eq_true, decide_eq_true_eq] at hp
      refine ⟨by have := hr.len; show (wentRun p picks).2.length ≤ 3; unfold wentRun; omega, fun w hw => ?_, fun h => by simp at h, fun _ => h.1⟩
      have := hr.small w hw
      omega
    · exact ⟨by simp, fun w hw => by simp at hw, fun _ => rfl, fun h => by simp at h⟩
  obtain ⟨y1, y2, y3, y4⟩ := hwl
  obtain ⟨W, hW⟩ : ∃ W, wentOf p picks = W := ⟨_, rfl⟩
  rw [hW] at hlaw y1 y2 y3 y4
  rw [hW]
  obtain ⟨ws, ok⟩ := W
  simp only at hlaw y1 y2 y3 y4 ⊢
  try simp only [go_sem, qA, qB, qC, qD, qE, qF, qG, qH]
  repeat (refine ⟨(by first | omega | (simp [-gD]; first | done | omega)), ?_⟩)
  have w0 : ∀ i, i < ws.length → (ws.getD i default).sent.length ≤ 4000 ∧ (ws.getD i default).taken.length ≤ 4000 := fun i hi => y2 _ (getD_mem ws i default hi)
  refine loop_intro (ι := Nat) (fun i => .mk [(3, .ptr 13 0 0), (4, .ns 12 0 picks.length), (5, .ns 14 0 ws.length), (6, .bool ok), (7, .ns 15 0 ws.length), (9, .int .i64 i)] [(12, 1, ints picks), (13, 2, [progC .own p]), (14, 2, wents .own ws), (15, 2, wents .own ws)] 16) (fun i => i ≤ ws.length) (fun i => ws.length - i) 0 (by simp) ?_ ?_
  · refine Sub.trans (Sub.fold1 13 0 10 rfl (by simp [-gD] <;> omega) rfl (by decide) (by decide) rfl) ?_
    simp only [fS, qA, qC]
    refine Sub.trans (Sub.fold1 13 1 11 rfl (by simp [-gD] <;> omega) rfl (by decide) (by decide) rfl) ?_
    simp only [fS, qA, qC]
    refine Sub.shape [] id (by omega) ?_ ?_ ?_ ?_ <;> simp [ints_rep]
  · intro i hi
    simp only [go_sem, qA, qB, qC, qD, qE, qF, qG, qH]
    refine branch_intro (fun hc => ?_) (fun hc => ?_)
    · simp only [decide_eq_true_eq] at hc
      have hi' : i < ws.length := by omega
      obtain ⟨w1, w2⟩ := w0 i hi'
      have gw : ∀ r, ((wents .own ws).set i r).getD i [] = r := fun r => getD_set_self _ _ _ _ (by rw [wents_length]; exact hi')
      simp only [go_sem, qA, qB, qC, qD, qE, qF, qG, qH, wents_getD .own ws i hi', gw]
      repeat (refine ⟨(by first | omega | (simp [-gD]; first | done | omega)), ?_⟩)
      refine dcall_intro (call_ok0 [] (sameInts_ok (ws.getD i default).sent (ws.getD i default).sent (by omega)) ?_ ?_ ?_ ?_ ?_ ?_) ?_ ?_
      any_goals (first | omega | (simp [nilL, nilV]; done) | (simp [nilL, nilV, *]; done))
      try simp only [go_sem, qA, qB, qC, qD, qE, qF, qG, qH]
      repeat (refine ⟨(by first | omega | (simp [-gD]; first | done | omega)), ?_⟩)
      try simp only [go_sem, qA, qB, qC, qD, qE, qF, qG, qH, gw]
      repeat (refine ⟨(by first | omega | (simp [-gD]; first | done | omega)), ?_⟩)
      refine dcall_intro (call_ok0 [] (sameInts_ok (ws.getD i default).taken (ws.getD i default).taken (by omega)) ?_ ?_ ?_ ?_ ?_ ?_) ?_ ?_
      any_goals (first | omega | (simp [nilL, nilV]; done) | (simp [nilL, nilV, *]; done))
      try simp only [go_sem, qA, qB, qC, qD, qE, qF, qG, qH]
      repeat (refine ⟨(by first | omega | (simp [-gD]; first | done | omega)), ?_⟩)
      try simp only [go_sem, qA, qB, qC, qD, qE, qF, qG, qH, gw, wrap_succ (i := i) (by omega)]
      repeat (refine ⟨(by first | omega | (simp [-gD]; first | done | omega)), ?_⟩)
      refine back_intro (i + 1) ?_ hi' (by omega)
      refine Sub.trans (Sub.foldAt 14 0 16 rfl (by simp [-gD] <;> omega) rfl (by decide) (by decide) rfl (by simp <;> omega)) ?_
      simp only [fS, qA, qC]
      refine Sub.trans (Sub.foldAt 15 0 17 rfl (by simp [-gD] <;> omega) rfl (by decide) (by decide) rfl (by simp <;> omega)) ?_
      simp only [fS, qA, qC]
      refine Sub.trans (Sub.foldAt 14 1 18 rfl (by simp [-gD] <;> omega) rfl (by decide) (by decide) rfl (by simp <;> omega)) ?_
      simp only [fS, qA, qC, wents_set, set_getD_self ws i default hi']
      refine Sub.trans (Sub.foldAt 15 1 19 rfl (by simp [-gD] <;> omega) rfl (by decide) (by decide) rfl (by simp <;> omega)) ?_
      simp only [fS, qA, qC, wents_set, set_getD_self ws i default hi']
      refine Sub.shape [] id (by omega) ?_ ?_ ?_ ?_ <;> simp [ints_rep]
    · simp only [decide_eq_false_iff_not] at hc
      cases ok
      · have hws := y3 rfl
        subst hws
        simp only [go_sem, qA, qB, qC, qD, qE, qF, qG, qH]
        repeat (refine ⟨(by first | omega | (simp [-gD]; first | done | omega)), ?_⟩)
        refine ⟨_, Sub.refl _, ?_⟩; simp [FinS, nilL, nilV, oneOr, -List.drop_one]
      have hpk := y4 rfl
      obtain ⟨l1, l2⟩ := hlaw rfl
      simp only [go_sem, qA, qB, qC, qD, qE, qF, qG, qH]
      repeat (refine ⟨(by first | omega | (simp [-gD]; first | done | omega)), ?_⟩)
      refine calls_intro (call_ok0 [] (implSourceNew_ok p (by omega) (by omega) (fun b hb => by have := z3 b hb; omega)) ?_ ?_ ?_ ?_ ?_ ?_) ?_
      any_goals (first | omega | (simp [nilL, nilV]; done) | (simp [nilL, nilV, *]; done))
      try simp only [go_sem, qA, qB, qC, qD, qE, qF, qG, qH]
      repeat (refine ⟨(by first | omega | (simp [-gD]; first | done | omega)), ?_⟩)
      have hn2 : (sourceNew p).2 = true := by simp [sourceNew, hpk]
      have hso := sourceNew_ok hpk
      generalize (sourceNew p).1 = s0 at hso l1 l2
      try simp only [go_sem, qA, qB, qC, qD, qE, qF, qG, qH]
      repeat (refine ⟨(by first | omega | (simp [-gD]; first | done | omega)), ?_⟩)
      refine calls_intro (call_ok0 [] (implSourceRun_ok p s0 picks (smallP_of hpk) (small_of hso) (by omega)) ?_ ?_ ?_ ?_ ?_ ?_) ?_
      any_goals (first | omega | (simp [nilL, nilV]; done) | (simp [nilL, nilV, *]; done))
      try simp only [go_sem, qA, qB, qC, qD, qE, qF, qG, qH]
      repeat (refine ⟨(by first | omega | (simp [-gD]; first | done | omega)), ?_⟩)
      have hr : sourceOk p (sourceRun p s0 picks).1 = true := by
        unfold sourceRun
        split
        · have := (runFold_ok hso picks picks.length (Nat.le_refl _)).1
          rw [List.take_length] at this
          exact this
        · exact hso
      generalize (sourceRun p s0 picks).1 = s1 at hr l1 l2
      have hs1 := small_of hr
      try simp only [go_sem, qA, qB, qC, qD, qE, qF, qG, qH]
      repeat (refine ⟨(by first | omega | (simp [-gD]; first | done | omega)), ?_⟩)
      refine loop_intro (ι := Nat) (fun i => .mk [(5, .ns 14 0 ws.length), (10, .ptr 21 0 0), (12, .int .i64 i)] [(14, 2, wents .own ws), (21, 3, [sourceC .own s1])] 26) (fun i => i ≤ ws.length) (fun i => ws.length - i) 0 (by simp) ?_ ?_
      · refine Sub.trans (Sub.fold1 21 0 22 rfl (by simp [-gD] <;> omega) rfl (by decide) (by decide) rfl) ?_
        simp only [fS, qA, qC]
        refine Sub.trans (Sub.fold1 21 1 23 rfl (by simp [-gD] <;> omega) rfl (by decide) (by decide) rfl) ?_
        simp only [fS, qA, qC]
        refine Sub.trans (Sub.fold1 21 2 24 rfl (by simp [-gD] <;> omega) rfl (by decide) (by decide) rfl) ?_
        simp only [fS, qA, qC]
        refine Sub.shape [] id (by omega) ?_ ?_ ?_ ?_ <;> simp [ints_rep]
      · clear hc hi
        clear i
        intro i hi
        simp only [go_sem, qA, qB, qC, qD, qE, qF, qG, qH]
        refine branch_intro (fun hc => ?_) (fun hc => ?_)
        · simp only [decide_eq_true_eq] at hc
          have hi' : i < ws.length := by omega
          have hj : i < s1.chs.length := by omega
          obtain ⟨w1, w2⟩ := w0 i hi'
          obtain ⟨b1, b2⟩ := l2 i hi'
          have gw : ∀ r, ((wents .own ws).set i r).getD i [] = r := fun r => getD_set_self _ _ _ _ (by rw [wents_length]; exact hi')
          have gc : ∀ r, ((chans .own s1.chs).set i r).getD i [] = r := fun r => getD_set_self _ _ _ _ (by rw [chans_length]; exact hj)
          have h5 := held_length (ws.getD i default).sent (ws.getD i default).taken
          simp only [go_sem, qA, qB, qC, qD, qE, qF, qG, qH, wents_getD .own ws i hi', gw]
          repeat (refine ⟨(by first | omega | (simp [-gD]; first | done | omega)), ?_⟩)
          refine dcall_intro (call_ok0 [] (implBegins_ok (ws.getD i default).taken (ws.getD i default).sent (by omega)) ?_ ?_ ?_ ?_ ?_ ?_) ?_ ?_
          any_goals (first | omega | (simp [nilL, nilV]; done) | (simp [nilL, nilV, *]; done))
          try simp only [go_sem, qA, qB, qC, qD, qE, qF, qG, qH]
          repeat (refine ⟨(by first | omega | (simp [-gD]; first | done | omega)), ?_⟩)
          try simp only [go_sem, qA, qB, qC, qD, qE, qF, qG, qH, b1, gw, chans_getD .own s1.chs i hj, gc]
          repeat (refine ⟨(by first | omega | (simp [-gD]; first | done | omega)), ?_⟩)
          refine dcall_intro (call_ok0 [] (implHeld_ok (ws.getD i default).sent (ws.getD i default).taken (by omega) (by omega)) ?_ ?_ ?_ ?_ ?_ ?_) ?_ ?_
          any_goals (first | omega | (simp [nilL, nilV]; done) | (simp [nilL, nilV, *]; done))
          try simp only [go_sem, qA, qB, qC, qD, qE, qF, qG, qH]
          repeat (refine ⟨(by first | omega | (simp [-gD]; first | done | omega)), ?_⟩)
          try simp only [go_sem, qA, qB, qC, qD, qE, qF, qG, qH, gw, gc, b2]
          repeat (refine ⟨(by first | omega | (simp [-gD]; first | done | omega)), ?_⟩)
          refine dcall_intro (call_ok0 [] (sameInts_ok (s1.chs.getD i default).list (s1.chs.getD i default).list (by rw [← b2]; omega)) ?_ ?_ ?_ ?_ ?_ ?_) ?_ ?_
          any_goals (first | omega | (simp [nilL, nilV]; done) | (simp [nilL, nilV, *]; done))
          try simp only [go_sem, qA, qB, qC, qD, qE, qF, qG, qH]
          repeat (refine ⟨(by first | omega | (simp [-gD]; first | done | omega)), ?_⟩)
          try simp only [go_sem, qA, qB, qC, qD, qE, qF, qG, qH, gw, gc, wrap_succ (i := i) (by omega)]
          repeat (refine ⟨(by first | omega | (simp [-gD]; first | done | omega)), ?_⟩)
          refine back_intro (i + 1) ?_ hi' (by omega)
          refine Sub.trans (Sub.foldAt 14 0 27 rfl (by simp [-gD] <;> omega) rfl (by decide) (by decide) rfl (by simp <;> omega)) ?_
          simp only [fS, qA, qC]
          refine Sub.trans (Sub.foldAt 14 1 26 rfl (by simp [-gD] <;> omega) rfl (by decide) (by decide) rfl (by simp <;> omega)) ?_
          simp only [fS, qA, qC, wents_set, set_getD_self ws i default hi']
          refine Sub.trans (Sub.foldAt 28 1 29 rfl (by simp [-gD] <;> omega) rfl (by decide) (by decide) rfl (by simp <;> omega)) ?_
          simp only [fS, qA, qC, chans_set, set_getD_self s1.chs i default hj]
          refine Sub.trans (Sub.fold1 21 1 28 rfl (by simp [-gD] <;> omega) rfl (by decide) (by decide) rfl) ?_
          simp only [fS, qA, qC]
          refine Sub.shape [] id (by omega) ?_ ?_ ?_ ?_ <;> simp [ints_rep]
        · simp only [go_sem, qA, qB, qC, qD, qE, qF, qG, qH]
          repeat (refine ⟨(by first | omega | (simp [-gD]; first | done | omega)), ?_⟩)
          refine ⟨_, Sub.refl _, ?_⟩; simp [FinS, nilL, nilV, oneOr, -List.drop_one]


end Go.Sep
