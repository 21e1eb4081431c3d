/- Contracts of functions. -/
import Derived.Test.YtknndifegfbaaaaConj
import Derived.Test.YtknndifegfbaaaaConk
namespace Go.Sep
open Go.Proofs
set_option linter.unusedSimpArgs false
set_option linter.unusedVariables false
set_option maxRecDepth 100000
open Nat renaming reduceAdd → qA, reduceMul → qB, reduceEqDiff → qC, reduceBEq → qD
open Int renaming reduceToNat → qE, reduceEq → qF, reduceLT → qG, reduceLE → qH
open List renaming getD_eq_getElem?_getD → gD
attribute [local go_sem] paramT preH e_seq e_reg e_block e_loop e_ops e_skip e_ret e_cond e_guard e_call e_ops1 plan next_ok next_some Arg.ev lookT putD putT if_false if_true app1 put del ints_length binA Option.map_some Option.bind_some look Int.toNat_natCast e_blk e_stop e_exit exitIt true_and and_true maybe_do maybe_tf maybe_ft branch_true branch_false Bool.false_eq_true bnd? cellsOf openL List.isEmpty_nil List.isEmpty_cons fresh List.map_nil List.map_cons List.cons_append List.nil_append splice List.take_zero List.drop_zero List.take_succ_cons List.getD_cons_zero List.length_cons List.length_nil List.drop_succ_cons List.drop_nil List.append_nil List.all_cons List.all_nil cellOk Bool.and_self Nat.zero_add e_dreg e_done e_take e_only1 e_onlyc e_takeg e_onlyg e_both dnext_some dnext_ok dmaybe_do rdTake pdTake addP rdOnly pdOnly isRead alive needs undep apart List.filter_nil List.filter_cons Option.isSome_some Option.isSome_none List.contains_nil List.contains_cons List.forall_mem_cons List.mem_cons List.not_mem_nil false_implies implies_true forall_const forall_eq_or_imp forall_eq or_false beq_self_eq_true Bool.or_false Bool.false_or Bool.true_or Bool.or_true Bool.not_true Bool.not_false xv xo xg xr xi xz List.set_set maybe_skip dmaybe_skip dmaybe_tf dmaybe_ft fillR fillROk fillA fillOk srcA eqC bytesOf ints_append List.replicate_zero decide_true decide_false ints_set nil_bind List.replicate_succ Int.toNat_zero Int.toNat_one eq_self Bool.and_true Bool.true_and Bool.and_false Bool.false_and List.set_cons_zero List.set_cons_succ List.getD_cons_succ rnm ixm renV renL openV openVs cond_true cond_false ints_drop ints_take drop_all
attribute [local simp] hand bwT bwC bwL ints_bw ints_take lookT Arg.ev handOk bwOk bwOks bwTs nf_sl nf_int nf_bool ints_bnd okV okL nb nbs nbr ints_nb look ints_length bnd bnds bndr renV renL ixm rnm apart needs rdOnly pdOnly fresh openV openVs resAV allP giveL giveV postH del isOwn partR ints_drop drop_all shp okB okBs ints_free
attribute [local go_sem] inss_length inss_append inss_drop inss_take inss_set insC bodies_length bodies_append bodies_drop bodies_take bodies_set intss_length intss_append intss_drop intss_take intss_set chans_length chans_append chans_drop chans_take chans_set chanC notes_length notes_append notes_drop notes_take notes_set noteC threads_length threads_append threads_drop threads_take threads_set threadC wents_length wents_append wents_drop wents_take wents_set wentC progs_length progs_append progs_drop progs_take progs_set progC sources_length sources_append sources_drop sources_take sources_set sourceC bys_length bys_append bys_drop bys_take bys_set
attribute [local simp] nilL_cons nilL_nil nilV_agg nilV_tup nilV_nilsl nilV_nil nilV_sl nilV_int nilV_bool nilV_str nilV_ns nilV_ptr nilRs_cons nilRs_nil free_nil free_cons inss_nil inss_bw inss_bnd inss_nb inss_length inss_take inss_drop inss_free bodies_nil bodies_bw bodies_bnd bodies_nb bodies_length bodies_take bodies_drop bodies_free intss_nil intss_bw intss_bnd intss_nb intss_length intss_take intss_drop intss_free chans_nil chans_bw chans_bnd chans_nb chans_length chans_take chans_drop chans_free notes_nil notes_bw notes_bnd notes_nb notes_length notes_take notes_drop notes_free threads_nil threads_bw threads_bnd threads_nb threads_length threads_take threads_drop threads_free wents_nil wents_bw wents_bnd wents_nb wents_length wents_take wents_drop wents_free progs_nil progs_bw progs_bnd progs_nb progs_length progs_take progs_drop progs_free sources_nil sources_bw sources_bnd sources_nb sources_length sources_take sources_drop sources_free bys_nil bys_bw bys_bnd bys_nb bys_length bys_take bys_drop bys_free curC insC chanC noteC threadC wentC progC sourceC

/-- What the program adds: told by the size of the channel before and after. -/
def implAdd (ws : List Went) (x : Ins) (before after sent got : Int) : List Went :=
  if within x.op 5 9 = false then ws
  else if after - before = 1 then ws.set x.n.toNat ⟨(ws.getD x.n.toNat default).sent ++ [sent], (ws.getD x.n.toNat default).taken⟩
  else if after - before = -1 then ws.set x.n.toNat ⟨(ws.getD x.n.toNat default).sent, (ws.getD x.n.toNat default).taken ++ [got]⟩
  else ws

theorem goTo_chs (p : Prog) (s : Source) (i : Nat) (t : Thread) (ok : Bool) (n : Int) : (goTo p s i t ok n).chs = s.chs := by
  unfold goTo
  split <;> rfl
theorem goTo_regs (p : Prog) (s : Source) (i : Nat) (t : Thread) (ok : Bool) (n : Int) (hi : i < s.ths.length) : ((goTo p s i t ok n).ths.getD i default).regs = t.regs := by
  unfold goTo
  split <;> (simp only; rw [getD_set_self _ _ _ _ hi])

theorem doStep_chan {p : Prog} {s : Source} {i : Nat} (h5 : 5 ≤ (ins p s i).op) (h9 : (ins p s i).op ≤ 9) : doStep p s i = goTo p ⟨s.ths, s.chs.set (ins p s i).n.toNat (chanStep (s.ths.getD i default) (s.chs.getD (ins p s i).n.toNat default) (ins p s i)).2.1, s.tr⟩ i
    (chanStep (s.ths.getD i default) (s.chs.getD (ins p s i).n.toNat default) (ins p s i)).1 (chanStep (s.ths.getD i default) (s.chs.getD (ins p s i).n.toNat default) (ins p s i)).2.2 ((s.ths.getD i default).at_ + 1) := by
  unfold doStep
  rw [if_neg (by omega), if_neg (by omega), if_neg (by omega), if_neg (by omega), if_neg (by omega), if_neg (by omega)]

theorem insOk_rb {x : Ins} {pl ch : Int} (h : insOk x pl ch = true) (h6 : x.op = 6 ∨ x.op = 8) : ¬ x.r = x.b := by
  rw [← insOkF_eq] at h
  simp only [insOkF, Bool.and_eq_true] at h
  have h2 := h.2
  rw [if_neg (by omega), if_neg (by omega)] at h2
  split at h2
  · simp at h2
  · rename_i hh
    exact fun e => hh ⟨h6, e⟩

theorem send_list (c : Chan) (v : Int) : (chanSend c v).1.list = c.list ∨ (chanSend c v).1.list = c.list ++ [v] := by
  unfold chanSend
  split
  · exact .inl rfl
  · split
    · exact .inl rfl
    · exact .inr rfl
theorem take_list (c : Chan) : (chanTake c).1.list = c.list ∨ (0 < c.list.length ∧ chanTake c = ({ c with list := c.list.drop 1 }, c.list.getD 0 0, 0)) := by
  unfold chanTake
  split
  · exact .inl rfl
  · split
    · rename_i h
      exact .inr ⟨h, rfl⟩
    · split <;> exact .inl rfl
theorem close_list (c : Chan) : (chanClose c).1.list = c.list := by
  unfold chanClose
  split <;> rfl

theorem implAdd_eq {p : Prog} {s : Source} {i : Nat} (ws : List Went) (h : sourceOk p s = true) (hi : i < s.ths.length) (hrb : (ins p s i).op = 6 ∨ (ins p s i).op = 8 → ¬ (ins p s i).r.toNat = (ins p s i).b.toNat) :
    implAdd ws (ins p s i) (if within (ins p s i).op 5 9 then ((s.chs.getD (ins p s i).n.toNat default).list.length : Int) else 0) (if within (ins p s i).op 5 9 then (((doStep p s i).chs.getD (ins p s i).n.toNat default).list.length : Int) else 0)
      (reg (s.ths.getD i default) (ins p s i).a) (reg ((doStep p s i).ths.getD i default) (ins p s i).r) =
    l27F ws (ins p s i) (s.chs.getD (ins p s i).n.toNat default).list ((doStep p s i).chs.getD (ins p s i).n.toNat default).list := by
  have ha := at_of h hi
  by_cases hw : within (ins p s i).op 5 9 = true
  · have hw' := hw
    rw [within_iff] at hw'
    obtain ⟨n0, n1⟩ := ha.ch hw'.1 hw'.2
    have hc := chanAt_ok h n1
    rw [doStep_chan hw'.1 hw'.2]
    have gr := goTo_regs p ⟨s.ths, s.chs.set (ins p s i).n.toNat (chanStep (s.ths.getD i default) (s.chs.getD (ins p s i).n.toNat default) (ins p s i)).2.1, s.tr⟩ i
      (chanStep (s.ths.getD i default) (s.chs.getD (ins p s i).n.toNat default) (ins p s i)).1 (chanStep (s.ths.getD i default) (s.chs.getD (ins p s i).n.toNat default) (ins p s i)).2.2 ((s.ths.getD i default).at_ + 1) hi
    simp only [goTo_chs, reg, gr, getD_set_self _ _ _ _ n1]
    have e4 := ha.regs
    have r1 := ha.r1
    clear gr
    generalize s.chs.getD (ins p s i).n.toNat default = c at hc ⊢
    by_cases h57 : (ins p s i).op = 5 ∨ (ins p s i).op = 7
    · have hw8 : within (ins p s i).op 5 8 = true := by rw [within_iff]; omega
      simp only [implAdd, l27F, hw, hw8, chanStep, if_pos h57, Bool.true_eq_false, if_false, if_true]
      rcases send_list c (reg (s.ths.getD i default) (ins p s i).a) with hs | hs
      · simp [-List.getD_eq_getElem?_getD, hs]
      · have : (c.list.length : Int) + 1 - c.list.length = 1 := by omega
        simp only [hs, List.length_append, List.length_cons, List.length_nil, Nat.zero_add, Int.natCast_add, Int.cast_ofNat_Int, this, if_true, Nat.lt_add_one, Nat.add_sub_cancel]
        have hv : (c.list ++ [reg (s.ths.getD i default) (ins p s i).a]).getD c.list.length 0 = (s.ths.getD i default).regs.getD (ins p s i).a.toNat 0 := by simp [List.getD_eq_getElem?_getD, reg]
        rw [hv]
    · by_cases h68 : (ins p s i).op = 6 ∨ (ins p s i).op = 8
      · have hw8 : within (ins p s i).op 5 8 = true := by rw [within_iff]; omega
        have hne := hrb h68
        simp only [implAdd, l27F, hw, hw8, chanStep, if_neg h57, if_pos h68, Bool.true_eq_false, if_false, if_true]
        rcases take_list c with hs | ⟨hpos, hs⟩
        · simp [-List.getD_eq_getElem?_getD, hs]
        · have d1 : ¬ ((c.list.drop 1).length : Int) - c.list.length = 1 := by simp only [List.length_drop]; omega
          have d2 : ((c.list.drop 1).length : Int) - c.list.length = -1 := by simp only [List.length_drop]; omega
          have d3 : ¬ c.list.length < (c.list.drop 1).length := by simp only [List.length_drop]; omega
          have d4 : (c.list.drop 1).length < c.list.length := by simp only [List.length_drop]; omega
          have d5 : ∀ v, (((s.ths.getD i default).regs.set (ins p s i).r.toNat (c.list.getD 0 0)).set (ins p s i).b.toNat v).getD (ins p s i).r.toNat 0 = c.list.getD 0 0 := fun v => by
            rw [List.getD_eq_getElem?_getD, List.getElem?_set_ne (by omega), ← List.getD_eq_getElem?_getD, getD_set_self _ _ _ _ (by omega)]
          have e03 : ¬ ((0 : Int) = 3 ∧ (ins p s i).op = 8) := by simp
          rw [hs]
          simp only [d1, d2, d3, d4, if_true, if_false, setReg, if_neg e03, d5]
          rw [if_neg (by decide)]
      · have hw8 : within (ins p s i).op 5 8 = false := by rw [within_eq]; simp; omega
        simp only [implAdd, l27F, hw, hw8, chanStep, if_neg h57, if_neg h68, Bool.true_eq_false, if_false, if_true, close_list]
        simp
  · simp only [Bool.not_eq_true] at hw
    have hw8 : within (ins p s i).op 5 8 = false := by rw [within_eq] at hw ⊢; simp at hw ⊢; omega
    simp [implAdd, l27F, hw, hw8]

set_option maxHeartbeats 4000000 in
theorem implWentOf_ok (p : Prog) (picks : List Int) (h1 : p.caps.length < 2 ^ 40) (h2 : p.bods.length < 2 ^ 40) (h3 : ∀ b ∈ p.bods, b.length < 2 ^ 40) (h4 : picks.length < 2 ^ 40) :
    CallOk Try.prog num 21 [.agg (progC .bw p), .sl .bw 1 (ints picks)] [] (.tup [.sl .own 2 (wents .own (wentOf p picks).1), .bool (wentOf p picks).2]) := by
  refine enter (m := m21) (f := 21) (fn := Try.f21) Try.func21 (by kernel_rfl) rfl c21 rfl (by simp [Try.f21]) (by simp [bnds, bnd, nf_sl, nf_int, nf_bool, nf_str, ints_bnd]) (fun _ _ h => by simp [preH, look] at h) ?_
  unfold m21
  simp only [go_sem, qA, qB, qC, qD, qE, qF, qG, qH]
  repeat (refine ⟨(by first | omega | (simp [-gD]; first | done | omega)), ?_⟩)
  refine calls_intro (call_ok0 [] (implSourceNew_ok p h1 h2 (fun b hb => Nat.lt_trans (h3 b hb) (by decide))) ?_ ?_ ?_ ?_ ?_ ?_) ?_
  any_goals (first | omega | (simp [nilL, nilV]; done) | (simp [nilL, nilV, *]; done))
  try simp only [go_sem, qA, qB, qC, qD, qE, qF, qG, qH]
  repeat (refine ⟨(by first | omega | (simp [-gD]; first | done | omega)), ?_⟩)
  cases hok : progOk p
  · have hn : (sourceNew p).2 = false := by simp [sourceNew, hok]
    try simp only [go_sem, qA, qB, qC, qD, qE, qF, qG, qH, hn]
    repeat (refine ⟨(by first | omega | (simp [-gD]; first | done | omega)), ?_⟩)
    apply fin_tup (by simp)
    · exact Sub.refl _
    · simp [-List.drop_one, -gD, wentOf, hok, wents_nil] <;> (first | rfl | exact ⟨rfl, rfl⟩ | exact ⟨rfl, rfl, rfl⟩ | skip)
  have hn : (sourceNew p).2 = true := by simp [sourceNew, hok]
  by_cases hl : (4000 : Int) < picks.length
  · have hl' : ¬ (picks.length : Int) ≤ 4000 := by omega
    try simp only [go_sem, qA, qB, qC, qD, qE, qF, qG, qH, hn, hl]
    repeat (refine ⟨(by first | omega | (simp [-gD]; first | done | omega)), ?_⟩)
    apply fin_tup (by simp)
    · exact Sub.refl _
    · simp [-List.drop_one, -gD, wentOf, hok, hl', wents_nil] <;> (first | rfl | exact ⟨rfl, rfl⟩ | exact ⟨rfl, rfl, rfl⟩ | skip)
  try simp only [go_sem, qA, qB, qC, qD, qE, qF, qG, qH, hn, hl]
  repeat (refine ⟨(by first | omega | (simp [-gD]; first | done | omega)), ?_⟩)
  have hl' : (picks.length : Int) ≤ 4000 := by omega
  refine loop_intro (ι := Nat) (fun i => .mk [(2, .ptr 10 0 0), (6, .ptr 14 0 0), (8, .ns 15 0 p.caps.length), (31, .sl .bw 1 (ints picks)), (32, .int .i64 picks.length), (33, .int .i64 i)] [(10, 2, [progC .bw p]), (14, 3, [sourceC .own ((picks.take i).foldl (wentStep p) ((sourceNew p).1, List.replicate p.caps.length ⟨[], []⟩)).1]), (15, 2, wents .own ((picks.take i).foldl (wentStep p) ((sourceNew p).1, List.replicate p.caps.length ⟨[], []⟩)).2)] 16) (fun i => i ≤ picks.length) (fun i => picks.length - i) 0 (by simp) ?_ ?_
  · refine Sub.trans (Sub.fold1 14 0 11 rfl (by simp [-gD] <;> omega) rfl (by decide) (by decide) rfl) ?_
    simp only [fS, qA, qC]
    refine Sub.trans (Sub.fold1 14 1 12 rfl (by simp [-gD] <;> omega) rfl (by decide) (by decide) rfl) ?_
    simp only [fS, qA, qC]
    refine Sub.trans (Sub.fold1 14 2 13 rfl (by simp [-gD] <;> omega) rfl (by decide) (by decide) rfl) ?_
    simp only [fS, qA, qC]
    refine Sub.shape [] id (by omega) ?_ ?_ ?_ ?_ <;> simp [ints_rep]
    right
    exact nil_wents _
  · intro i hi
    have hr := runOk hok picks i hi
    have hstep := fun h => take_fold p picks i h ((sourceNew p).1, List.replicate p.caps.length ⟨[], []⟩)
    have hfin : ¬ (i : Int) < picks.length → (picks.take i).foldl (wentStep p) ((sourceNew p).1, List.replicate p.caps.length ⟨[], []⟩) = wentRun p picks := fun h => by rw [List.take_of_length_le (by omega)]; rfl
    generalize (picks.take i).foldl (wentStep p) ((sourceNew p).1, List.replicate p.caps.length ⟨[], []⟩) = st at hr hstep hfin
    obtain ⟨hso, hlen, hsm⟩ := hr
    have hsp := smallP_of hok
    have hss := small_of hso
    have htr := notesOk_len hso
    simp only [go_sem, qA, qB, qC, qD, qE, qF, qG, qH]
    repeat (refine ⟨(by first | omega | (simp [-gD]; first | done | omega)), ?_⟩)
    refine branch_intro (fun hc => ?_) (fun hc => ?_)
    · simp only [decide_eq_true_eq] at hc
      have hl2 : i < picks.length := by omega
      simp only [go_sem, qA, qB, qC, qD, qE, qF, qG, qH, ints_getD picks i hl2]
      repeat (refine ⟨(by first | omega | (simp [-gD]; first | done | omega)), ?_⟩)
      refine calls_intro (call_ok0 [] (sourceCode_ok p st.1 (picks.getD i 0) hsp hss hso) ?_ ?_ ?_ ?_ ?_ ?_) ?_
      any_goals (first | omega | (simp [nilL, nilV]; done) | (simp [nilL, nilV, *]; done))
      try simp only [go_sem, qA, qB, qC, qD, qE, qF, qG, qH]
      repeat (refine ⟨(by first | omega | (simp [-gD]; first | done | omega)), ?_⟩)
      by_cases hcode : sourceCode p st.1 (picks.getD i 0) = 0
      case neg =>
        have e3 : wentStep p st (picks.getD i 0) = st := by unfold wentStep; rw [if_neg hcode]
        try simp only [go_sem, qA, qB, qC, qD, qE, qF, qG, qH, hcode, wrap_succ (i := i) (by omega)]
        repeat (refine ⟨(by first | omega | (simp [-gD]; first | done | omega)), ?_⟩)
        refine back_intro (i + 1) ?_ hl2 (by omega)
        simp only [hstep hl2, e3]
        refine Sub.shape [] id (by omega) ?_ ?_ ?_ ?_ <;> simp [ints_rep]
      obtain ⟨w0, w1⟩ := code_in hcode
      obtain ⟨j, hj⟩ := Int.eq_ofNat_of_zero_le w0
      have hjn : (picks.getD i 0).toNat = j := by omega
      rw [hjn] at w1
      have ha := at_of hso w1
      have q1 := ha.at0
      have q2 := ha.at1
      have q3 := ha.hb
      have q4 := ha.regs
      have a0 := ha.a0
      have a1 := ha.a1
      have hx : (p.bods.getD j []).getD (st.1.ths.getD j default).at_.toNat default = ins p st.1 j := rfl
      have ra : (ins p st.1 j).a.toNat < (st.1.ths.getD j default).regs.length := by omega
      have hcode2 := hcode
      rw [hj] at hcode2
      try simp only [go_sem, qA, qB, qC, qD, qE, qF, qG, qH, hcode2, hj, threads_getD .own st.1.ths j w1, bodies_getD .bw p.bods j q3, inss_getD (p.bods.getD j []) (st.1.ths.getD j default).at_.toNat q2, hx, Int.toNat_natCast]
      repeat (refine ⟨(by first | omega | (simp [-gD]; first | done | omega)), ?_⟩)
      refine calls_intro (call_ok0 [] (chanSize_ok st.1 (ins p st.1 j) ha.ch) ?_ ?_ ?_ ?_ ?_ ?_) ?_
      any_goals (first | omega | (simp [nilL, nilV]; done) | (simp [nilL, nilV, *]; done))
      try simp only [go_sem, qA, qB, qC, qD, qE, qF, qG, qH]
      repeat (refine ⟨(by first | omega | (simp [-gD]; first | done | omega)), ?_⟩)
      have gt : ∀ r, ((threads .own st.1.ths).set j r).getD j [] = r := fun r => getD_set_self _ _ _ _ (by rw [threads_length]; exact w1)
      try simp only [go_sem, qA, qB, qC, qD, qE, qF, qG, qH, hj, gt, threads_getD .own st.1.ths j w1, Int.toNat_natCast, ints_getD (st.1.ths.getD j default).regs (ins p st.1 j).a.toNat ra]
      repeat (refine ⟨(by first | omega | (simp [-gD]; first | done | omega)), ?_⟩)
      have e2 : sourceStep p st.1 (j : Int) = (doStep p st.1 j, 0) := by unfold sourceStep; rw [if_pos hcode2, Int.toNat_natCast]
      have e3 : wentStep p st (picks.getD i 0) = (doStep p st.1 j, l27F st.2 (ins p st.1 j) (st.1.chs.getD (ins p st.1 j).n.toNat default).list ((doStep p st.1 j).chs.getD (ins p st.1 j).n.toNat default).list) := by unfold wentStep; rw [if_pos hcode, hjn]
      have hso2 := (runOk_step (who := picks.getD i 0) (i := i) ⟨hso, hlen, hsm⟩).ok
      rw [e3] at hso2
      have hss3 := small_of hso2
      apply calls_mk
      · refine Sub.trans (Sub.foldAt 16 1 20 rfl (by simp [-gD] <;> omega) rfl (by decide) (by decide) rfl (by simp <;> omega)) ?_
        simp only [fS, qA, qC, threads_set, set_getD_self st.1.ths j default w1]
        refine Sub.trans (Sub.fold1 14 0 16 rfl (by simp [-gD] <;> omega) rfl (by decide) (by decide) rfl) ?_
        simp only [fS, qA, qC]
        refine Sub.trans (Sub.fold1 14 1 18 rfl (by simp [-gD] <;> omega) rfl (by decide) (by decide) rfl) ?_
        simp only [fS, qA, qC]
        refine Sub.trans (Sub.fold1 14 2 19 rfl (by simp [-gD] <;> omega) rfl (by decide) (by decide) rfl) ?_
        simp only [fS, qA, qC]
        exact Sub.refl _
      refine calls_intro (call_ok0 [(0, 14)] (sourceStep_ok p st.1 j hsp hss hso htr) ?_ ?_ ?_ ?_ ?_ ?_) ?_
      any_goals (first | omega | (simp [nilL, nilV]; done) | (simp [nilL, nilV, *]; done))
      try simp only [go_sem, qA, qB, qC, qD, qE, qF, qG, qH]
      repeat (refine ⟨(by first | omega | (simp [-gD]; first | done | omega)), ?_⟩)
      try simp only [go_sem, qA, qB, qC, qD, qE, qF, qG, qH, e2]
      repeat (refine ⟨(by first | omega | (simp [-gD]; first | done | omega)), ?_⟩)
      refine calls_intro (call_ok0 [] (ofChan_ok (ins p st.1 j).op) ?_ ?_ ?_ ?_ ?_ ?_) ?_
      any_goals (first | omega | (simp [nilL, nilV]; done) | (simp [nilL, nilV, *]; done))
      try simp only [go_sem, qA, qB, qC, qD, qE, qF, qG, qH]
      repeat (refine ⟨(by first | omega | (simp [-gD]; first | done | omega)), ?_⟩)
      cases hw : within (ins p st.1 j).op 5 9
      · have hw8 : within (ins p st.1 j).op 5 8 = false := by rw [within_eq] at hw ⊢; simp at hw ⊢; omega
        have hl27 : ∀ a b, l27F st.2 (ins p st.1 j) a b = st.2 := fun a b => by unfold l27F; rw [if_pos hw8]
        try simp only [go_sem, qA, qB, qC, qD, qE, qF, qG, qH, hw, wrap_succ (i := i) (by omega)]
        repeat (refine ⟨(by first | omega | (simp [-gD]; first | done | omega)), ?_⟩)
        refine back_intro (i + 1) ?_ hl2 (by omega)
        simp only [hstep hl2, e3, hl27]
        refine Sub.shape [] id (by omega) ?_ ?_ ?_ ?_ <;> simp [ints_rep]
      have hw' := hw
      rw [within_iff] at hw'
      obtain ⟨n0, n1⟩ := ha.ch hw'.1 hw'.2
      have c1 := ((sourceOk_iff p st.1).1 hso).2.2.1
      have c2 := ((sourceOk_iff p _).1 hso2).2.2.1
      have c3 := ((sourceOk_iff p _).1 hso2).2.1
      have c4 := ((sourceOk_iff p st.1).1 hso).2.1
      simp only at c2 c3
      have n2 : (ins p st.1 j).n.toNat < (doStep p st.1 j).chs.length := by omega
      have n3 : (ins p st.1 j).n < p.caps.length := by omega
      have n4 : (ins p st.1 j).n.toNat < st.2.length := by omega
      have l1 := hss.list _ (getD_mem st.1.chs _ default n1)
      have l2 := hss3.list _ (getD_mem (doStep p st.1 j).chs _ default n2)
      have hj2 : j < (doStep p st.1 j).ths.length := by omega
      have hr2 : ((doStep p st.1 j).ths.getD j default).regs.length = 4 := (at_of hso2 hj2).regs
      have rr2 : (ins p st.1 j).r.toNat < ((doStep p st.1 j).ths.getD j default).regs.length := by rw [hr2]; exact ha.r1
      have r0 := ha.r0
      have gw : ∀ r, ((wents .own st.2).set (ins p st.1 j).n.toNat r).getD (ins p st.1 j).n.toNat [] = r := fun r => getD_set_self _ _ _ _ (by rw [wents_length]; exact n4)
      have hrb : (ins p st.1 j).op = 6 ∨ (ins p st.1 j).op = 8 → ¬ (ins p st.1 j).r.toNat = (ins p st.1 j).b.toNat := fun h68 => by
        have hbody : insOk (ins p st.1 j) (p.bods.getD j []).length p.caps.length = true := by
          have h1 := ((sourceOk_iff p st.1).1 hso).1
          simp only [progOk, Bool.and_eq_true] at h1
          have h2 := List.all_eq_true.1 h1.1.1.1 _ (getD_mem p.bods j [] q3)
          simp only [bodyOk, Bool.and_eq_true] at h2
          exact List.all_eq_true.1 h2.1.2 _ (getD_mem (p.bods.getD j []) _ default q2)
        have := insOk_rb hbody h68
        have b0 := ha.b0
        omega
      have heq := implAdd_eq st.2 hso w1 hrb
      have hwr : IntKind.i64.wrap ((((doStep p st.1 j).chs.getD (ins p st.1 j).n.toNat default).list.length : Int) - (st.1.chs.getD (ins p st.1 j).n.toNat default).list.length) = (((doStep p st.1 j).chs.getD (ins p st.1 j).n.toNat default).list.length : Int) - (st.1.chs.getD (ins p st.1 j).n.toNat default).list.length := wrap64 (by omega) (by omega)
      obtain ⟨sm1, sm2⟩ := hsm _ (getD_mem st.2 _ default n4)
      have k1 : IntKind.i64.wrap 1 = 1 := wrap64 (by omega) (by omega)
      have k2 : IntKind.i64.wrap (-1) = -1 := wrap64 (by omega) (by omega)
      try simp only [go_sem, qA, qB, qC, qD, qE, qF, qG, qH, hw]
      repeat (refine ⟨(by first | omega | (simp [-gD]; first | done | omega)), ?_⟩)
      refine calls_intro (call_ok0 [] (chanSize_ok (doStep p st.1 j) (ins p st.1 j) (fun _ _ => ⟨n0, n2⟩)) ?_ ?_ ?_ ?_ ?_ ?_) ?_
      any_goals (first | omega | (simp [nilL, nilV]; done) | (simp [nilL, nilV, *]; done))
      try simp only [go_sem, qA, qB, qC, qD, qE, qF, qG, qH]
      repeat (refine ⟨(by first | omega | (simp [-gD]; first | done | omega)), ?_⟩)
      simp only [implAdd, hw, Bool.true_eq_false, if_false, if_true] at heq
      by_cases d1 : (((doStep p st.1 j).chs.getD (ins p st.1 j).n.toNat default).list.length : Int) - (st.1.chs.getD (ins p st.1 j).n.toNat default).list.length = 1
      · rw [if_pos d1] at heq
        try simp only [go_sem, qA, qB, qC, qD, qE, qF, qG, qH, hw, hwr, d1, k1, gw, wents_getD .own st.2 (ins p st.1 j).n.toNat n4, wrap_succ (i := i) (by omega)]
        repeat (refine ⟨(by first | omega | (simp [-gD]; first | done | omega)), ?_⟩)
        refine back_intro (i + 1) ?_ hl2 (by omega)
        refine Sub.trans (Sub.foldAt 15 0 26 rfl (by simp [-gD] <;> omega) rfl (by decide) (by decide) rfl (by simp <;> omega)) ?_
        simp only [fS, qA, qC, ints_one, ints_append, wents_set]
        refine Sub.trans (Sub.fold1 14 0 21 rfl (by simp [-gD] <;> omega) rfl (by decide) (by decide) rfl) ?_
        simp only [fS, qA, qC]
        refine Sub.trans (Sub.fold1 14 1 22 rfl (by simp [-gD] <;> omega) rfl (by decide) (by decide) rfl) ?_
        simp only [fS, qA, qC]
        refine Sub.trans (Sub.fold1 14 2 23 rfl (by simp [-gD] <;> omega) rfl (by decide) (by decide) rfl) ?_
        simp only [fS, qA, qC]
        simp only [hstep hl2, e3, ← heq, reg]
        refine Sub.shape [] id (by omega) ?_ ?_ ?_ ?_ <;> simp [ints_rep]
      rw [if_neg d1] at heq
      by_cases d2 : (((doStep p st.1 j).chs.getD (ins p st.1 j).n.toNat default).list.length : Int) - (st.1.chs.getD (ins p st.1 j).n.toNat default).list.length = -1
      · rw [if_pos d2] at heq
        try simp only [go_sem, qA, qB, qC, qD, qE, qF, qG, qH, hw, hwr, d1, d2, k2, gw, wents_getD .own st.2 (ins p st.1 j).n.toNat n4, threads_getD .own _ j hj2, ints_getD _ (ins p st.1 j).r.toNat rr2, Int.toNat_natCast, wrap_succ (i := i) (by omega)]
        repeat (refine ⟨(by first | omega | (simp [-gD]; first | done | omega)), ?_⟩)
        refine back_intro (i + 1) ?_ hl2 (by omega)
        refine Sub.trans (Sub.foldAt 15 1 27 rfl (by simp [-gD] <;> omega) rfl (by decide) (by decide) rfl (by simp <;> omega)) ?_
        simp only [fS, qA, qC, ints_one, ints_append, wents_set]
        refine Sub.trans (Sub.foldAt 21 1 25 rfl (by simp [-gD] <;> omega) rfl (by decide) (by decide) rfl (by simp <;> omega)) ?_
        simp only [fS, qA, qC, threads_set, set_getD_self _ j default hj2]
        refine Sub.trans (Sub.fold1 14 0 21 rfl (by simp [-gD] <;> omega) rfl (by decide) (by decide) rfl) ?_
        simp only [fS, qA, qC]
        refine Sub.trans (Sub.fold1 14 1 22 rfl (by simp [-gD] <;> omega) rfl (by decide) (by decide) rfl) ?_
        simp only [fS, qA, qC]
        refine Sub.trans (Sub.fold1 14 2 23 rfl (by simp [-gD] <;> omega) rfl (by decide) (by decide) rfl) ?_
        simp only [fS, qA, qC]
        simp only [hstep hl2, e3, ← heq, reg]
        refine Sub.shape [] id (by omega) ?_ ?_ ?_ ?_ <;> simp [ints_rep]
      rw [if_neg d2] at heq
      try simp only [go_sem, qA, qB, qC, qD, qE, qF, qG, qH, hw, hwr, d1, d2, wrap_succ (i := i) (by omega)]
      repeat (refine ⟨(by first | omega | (simp [-gD]; first | done | omega)), ?_⟩)
      refine back_intro (i + 1) ?_ hl2 (by omega)
      refine Sub.trans (Sub.fold1 14 0 21 rfl (by simp [-gD] <;> omega) rfl (by decide) (by decide) rfl) ?_
      simp only [fS, qA, qC]
      refine Sub.trans (Sub.fold1 14 1 22 rfl (by simp [-gD] <;> omega) rfl (by decide) (by decide) rfl) ?_
      simp only [fS, qA, qC]
      refine Sub.trans (Sub.fold1 14 2 23 rfl (by simp [-gD] <;> omega) rfl (by decide) (by decide) rfl) ?_
      simp only [fS, qA, qC]
      simp only [hstep hl2, e3, ← heq]
      refine Sub.shape [] id (by omega) ?_ ?_ ?_ ?_ <;> simp [ints_rep]
    · simp only [decide_eq_false_iff_not] at hc
      have hf := hfin hc
      simp only [go_sem, qA, qB, qC, qD, qE, qF, qG, qH]
      repeat (refine ⟨(by first | omega | (simp [-gD]; first | done | omega)), ?_⟩)
      apply fin_tup (by simp)
      · exact Sub.refl _
      · simp [-List.drop_one, -gD, wentOf, hok, hl', hlen, ← hf] <;> (first | rfl | exact ⟨rfl, rfl⟩ | exact ⟨rfl, rfl, rfl⟩ | skip)


end Go.Sep
