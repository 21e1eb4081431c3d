/- Contracts of functions. -/
import Derived.Test.YtoijhndfkfliiaaCone
import Derived.Test.YtoijhndfkfliiaaConf
namespace Go.Sep
open Go.Proofs
set_option linter.unusedSimpArgs false
set_option linter.unusedVariables false
set_option maxRecDepth 100000
open Nat renaming reduceAdd → qA, reduceMul → qB, reduceEqDiff → qC, reduceBEq → qD
open Int renaming reduceToNat → qE, reduceEq → qF, reduceLT → qG, reduceLE → qH
open List renaming getD_eq_getElem?_getD → gD
attribute [local go_sem] paramT preH e_seq e_reg e_block e_loop e_ops e_skip e_ret e_cond e_guard e_call e_ops1 plan next_ok next_some Arg.ev lookT putD putT if_false if_true app1 put del ints_length binA Option.map_some Option.bind_some look Int.toNat_natCast e_blk e_stop e_exit exitIt true_and and_true maybe_do maybe_tf maybe_ft branch_true branch_false Bool.false_eq_true bnd? cellsOf openL List.isEmpty_nil List.isEmpty_cons fresh List.map_nil List.map_cons List.cons_append List.nil_append splice List.take_zero List.drop_zero List.take_succ_cons List.getD_cons_zero List.length_cons List.length_nil List.drop_succ_cons List.drop_nil List.append_nil List.all_cons List.all_nil cellOk Bool.and_self Nat.zero_add e_dreg e_done e_take e_only1 e_onlyc e_takeg e_onlyg e_both dnext_some dnext_ok dmaybe_do rdTake pdTake addP rdOnly pdOnly isRead alive needs undep apart List.filter_nil List.filter_cons Option.isSome_some Option.isSome_none List.contains_nil List.contains_cons List.forall_mem_cons List.mem_cons List.not_mem_nil false_implies implies_true forall_const forall_eq_or_imp forall_eq or_false beq_self_eq_true Bool.or_false Bool.false_or Bool.true_or Bool.or_true Bool.not_true Bool.not_false xv xo xg xr xi xz List.set_set maybe_skip dmaybe_skip dmaybe_tf dmaybe_ft fillR fillROk fillA fillOk srcA eqC bytesOf ints_append List.replicate_zero decide_true decide_false ints_set nil_bind List.replicate_succ Int.toNat_zero Int.toNat_one eq_self Bool.and_true Bool.true_and Bool.and_false Bool.false_and List.set_cons_zero List.set_cons_succ List.getD_cons_succ rnm ixm renV renL openV openVs cond_true cond_false ints_drop ints_take drop_all
attribute [local simp] hand bwT bwC bwL ints_bw ints_take lookT Arg.ev handOk bwOk bwOks bwTs nf_sl nf_int nf_bool ints_bnd okV okL nb nbs nbr ints_nb look ints_length bnd bnds bndr renV renL ixm rnm apart needs rdOnly pdOnly fresh openV openVs resAV allP giveL giveV postH del isOwn partR ints_drop drop_all shp okB okBs ints_free
attribute [local go_sem] inss_length inss_append inss_drop inss_take inss_set insC bodies_length bodies_append bodies_drop bodies_take bodies_set intss_length intss_append intss_drop intss_take intss_set chans_length chans_append chans_drop chans_take chans_set chanC notes_length notes_append notes_drop notes_take notes_set noteC threads_length threads_append threads_drop threads_take threads_set threadC wents_length wents_append wents_drop wents_take wents_set wentC progs_length progs_append progs_drop progs_take progs_set progC sources_length sources_append sources_drop sources_take sources_set sourceC bys_length bys_append bys_drop bys_take bys_set
attribute [local simp] nilL_cons nilL_nil nilV_agg nilV_tup nilV_nilsl nilV_nil nilV_sl nilV_int nilV_bool nilV_str nilV_ns nilV_ptr nilRs_cons nilRs_nil free_nil free_cons inss_nil inss_bw inss_bnd inss_nb inss_length inss_take inss_drop inss_free bodies_nil bodies_bw bodies_bnd bodies_nb bodies_length bodies_take bodies_drop bodies_free intss_nil intss_bw intss_bnd intss_nb intss_length intss_take intss_drop intss_free chans_nil chans_bw chans_bnd chans_nb chans_length chans_take chans_drop chans_free notes_nil notes_bw notes_bnd notes_nb notes_length notes_take notes_drop notes_free threads_nil threads_bw threads_bnd threads_nb threads_length threads_take threads_drop threads_free wents_nil wents_bw wents_bnd wents_nb wents_length wents_take wents_drop wents_free progs_nil progs_bw progs_bnd progs_nb progs_length progs_take progs_drop progs_free sources_nil sources_bw sources_bnd sources_nb sources_length sources_take sources_drop sources_free bys_nil bys_bw bys_bnd bys_nb bys_length bys_take bys_drop bys_free curC insC chanC noteC threadC wentC progC sourceC

/-- A source that is handed over whole: its rows, by name. -/
@[simp] def srcV (s : Source) : AV := .agg [.ns 0 0 s.ths.length, .ns 1 0 s.chs.length, .ns 2 0 s.tr.length]
@[simp] def srcF (s : Source) : FP := [(0, some (3, threads .own s.ths), none), (1, some (3, chans .own s.chs), none), (2, some (2, notes s.tr), none)]

def l4GoF (p : Prog) (s : Source) (i : Nat) (at_ : Int) : Source :=
  if within at_ 0 ((p.bods.getD i []).length - 1) = false then ⟨s.ths.set i ⟨(s.ths.getD i default).at_, (s.ths.getD i default).regs, 2⟩, s.chs, s.tr⟩
  else ⟨s.ths.set i ⟨at_, (s.ths.getD i default).regs, (s.ths.getD i default).st⟩, s.chs, s.tr⟩

theorem srcF_hb (s : Source) : HB (preH (srcF s)) 10 := by
  refine hb_cons _ _ _ _ (hb_cons _ _ _ _ (hb_cons _ _ _ _ ((hb_nil _).2 trivial) (by decide) ?_) (by decide) ?_) (by decide) ?_ <;> simp

theorem l4Go_ok (p : Prog) (s : Source) (i : Nat) (at_ : Int) (hi : i < s.ths.length) (hb : i < p.bods.length) (hl : (p.bods.getD i []).length < 2 ^ 40) :
    CallOk Try.prog num 87 [.agg (progC .bw p), srcV s, .int .i64 i, .int .i64 at_] (srcF s) (.agg (sourceC .own (l4GoF p s i at_))) := by
  refine enter (m := m87) (f := 87) (fn := Try.f235) Try.func235 (by kernel_rfl) rfl c87 rfl (by simp [Try.f235]) (by simp [bnds, bnd, nf_sl, nf_int, nf_bool, nf_str, ints_bnd]) (srcF_hb s) ?_
  unfold m87
  have hw1 : IntKind.i64.wrap (((p.bods.getD i []).length : Int) - 1) = ((p.bods.getD i []).length : Int) - 1 := wrap64 (by omega) (by omega)
  have gt : ∀ r, ((threads .own s.ths).set i r).getD i [] = r := fun r => getD_set_self _ _ _ _ (by rw [threads_length]; exact hi)
  simp only [go_sem, qA, qB, qC, qD, qE, qF, qG, qH, srcF, srcV, bodies_getD .bw p.bods i hb, Int.toNat_natCast, hw1]
  repeat (refine ⟨(by first | omega | (simp [-gD]; first | done | omega)), ?_⟩)
  refine calls_intro (call_ok0 [] (l1In_ok at_ 0 ((p.bods.getD i []).length - 1)) ?_ ?_ ?_ ?_ ?_ ?_) ?_
  any_goals (first | omega | (simp [nilL, nilV]; done) | (simp [nilL, nilV, *]; done))
  try simp only [go_sem, qA, qB, qC, qD, qE, qF, qG, qH]
  repeat (refine ⟨(by first | omega | (simp [-gD]; first | done | omega)), ?_⟩)
  cases hw : within at_ 0 ((p.bods.getD i []).length - 1)
  · simp only [go_sem, qA, qB, qC, qD, qE, qF, qG, qH, hw, threads_getD .own s.ths i hi, Int.toNat_natCast, gt]
    repeat (refine ⟨(by first | omega | (simp [-gD]; first | done | omega)), ?_⟩)
    apply fin_one
    · exact Sub.refl _
    · simp [-List.drop_one, -gD, threads_set, l4GoF, hw, srcF] <;> (first | rfl | exact ⟨rfl, rfl⟩ | exact ⟨rfl, rfl, rfl⟩ | skip)
  · simp only [go_sem, qA, qB, qC, qD, qE, qF, qG, qH, hw, threads_getD .own s.ths i hi, Int.toNat_natCast, gt]
    repeat (refine ⟨(by first | omega | (simp [-gD]; first | done | omega)), ?_⟩)
    apply fin_one
    · exact Sub.refl _
    · simp [-List.drop_one, -gD, threads_set, l4GoF, hw, srcF] <;> (first | rfl | exact ⟨rfl, rfl⟩ | exact ⟨rfl, rfl, rfl⟩ | skip)

/-- A place of a channel, as the reference does it. -/
def l4ChanF (t : Thread) (c : Chan) (x : Ins) : Thread × Chan × Int :=
  if x.op = 5 then (t, (chanSend c (reg t x.a)).1, (chanSend c (reg t x.a)).2)
  else if x.op = 7 then
    if (chanSend c (reg t x.a)).2 = 2 then (t, (chanSend c (reg t x.a)).1, 2) else (setReg t x.r (numb (decide ((chanSend c (reg t x.a)).2 = 0))), (chanSend c (reg t x.a)).1, 0)
  else if x.op = 9 then (t, (chanClose c).1, (chanClose c).2)
  else if x.op = 6 then
    if (chanTake c).2.2 = 1 then (t, (chanTake c).1, 1) else (setReg (setReg t x.r (chanTake c).2.1) x.b (numb (decide ((chanTake c).2.2 = 0))), (chanTake c).1, 0)
  else (setReg (setReg t x.r (chanTake c).2.1) x.b ([1, 0, 0, 2].getD (chanTake c).2.2.toNat 0), (chanTake c).1, 0)

theorem chanTake_code (c : Chan) : 0 ≤ (chanTake c).2.2 ∧ (chanTake c).2.2 < 4 := by
  unfold chanTake
  split
  · simp
  · split
    · simp
    · split <;> simp

set_option maxHeartbeats 4000000 in
theorem l4Chan_ok (s : Source) (i : Nat) (x : Ins) (hi : i < s.ths.length) (n0 : 0 ≤ x.n) (hj : x.n.toNat < s.chs.length) (hr : (s.ths.getD i default).regs.length = 4) (hc : (s.chs.getD x.n.toNat default).list.length < 2 ^ 40)
    (r0 : 0 ≤ x.r) (r1 : x.r.toNat < 4) (a0 : 0 ≤ x.a) (a1 : x.a.toNat < 4) (b0 : 0 ≤ x.b) (b1 : x.b.toNat < 4) :
    CallOk Try.prog num 86 [srcV s, .int .i64 i, .agg (insC x)] (srcF s) (.tup [.agg (sourceC .own ⟨s.ths.set i (l4ChanF (s.ths.getD i default) (s.chs.getD x.n.toNat default) x).1, s.chs.set x.n.toNat (l4ChanF (s.ths.getD i default) (s.chs.getD x.n.toNat default) x).2.1, s.tr⟩),
      .int .i64 (l4ChanF (s.ths.getD i default) (s.chs.getD x.n.toNat default) x).2.2]) := by
  refine enter (m := m86) (f := 86) (fn := Try.f234) Try.func234 (by kernel_rfl) rfl c86 rfl (by simp [Try.f234]) (by simp [bnds, bnd, nf_sl, nf_int, nf_bool, nf_str, ints_bnd]) (srcF_hb s) ?_
  unfold m86
  have gt : ∀ r, ((threads .own s.ths).set i r).getD i [] = r := fun r => getD_set_self _ _ _ _ (by rw [threads_length]; exact hi)
  have gc : ∀ r, ((chans .own s.chs).set x.n.toNat r).getD x.n.toNat [] = r := fun r => getD_set_self _ _ _ _ (by rw [chans_length]; exact hj)
  have ra : x.a.toNat < (s.ths.getD i default).regs.length := by omega
  have rr : x.r.toNat < (s.ths.getD i default).regs.length := by omega
  have rb : x.b.toNat < (s.ths.getD i default).regs.length := by omega
  have rbs : ∀ v, x.b.toNat < ((s.ths.getD i default).regs.set x.r.toNat v).length := fun v => by rw [List.length_set]; exact rb
  simp only [go_sem, qA, qB, qC, qD, qE, qF, qG, qH, srcF, srcV, threads_getD .own s.ths i hi, chans_getD .own s.chs x.n.toNat hj, gt, gc, Int.toNat_natCast, ints_getD (s.ths.getD i default).regs x.a.toNat ra]
  repeat (refine ⟨(by first | omega | (simp [-gD]; first | done | omega)), ?_⟩)
  by_cases h5 : x.op = 5
  · simp only [go_sem, qA, qB, qC, qD, qE, qF, qG, qH, h5, gt, gc, Int.toNat_natCast, ints_getD (s.ths.getD i default).regs x.a.toNat ra, ints_getD (s.ths.getD i default).regs x.r.toNat rr]
    repeat (refine ⟨(by first | omega | (simp [-gD]; first | done | omega)), ?_⟩)
    refine dcall_intro (call_ok0 [] (specChanSend_ok (s.chs.getD x.n.toNat default) ((s.ths.getD i default).regs.getD x.a.toNat 0) (by omega)) ?_ ?_ ?_ ?_ ?_ ?_) ?_ ?_
    any_goals (first | omega | (simp [nilL, nilV]; done) | (simp [nilL, nilV, *]; done))
    try simp only [go_sem, qA, qB, qC, qD, qE, qF, qG, qH]
    repeat (refine ⟨(by first | omega | (simp [-gD]; first | done | omega)), ?_⟩)
    try simp only [go_sem, qA, qB, qC, qD, qE, qF, qG, qH, h5, gt, gc, Int.toNat_natCast, ints_getD (s.ths.getD i default).regs x.a.toNat ra, ints_getD (s.ths.getD i default).regs x.r.toNat rr]
    repeat (refine ⟨(by first | omega | (simp [-gD]; first | done | omega)), ?_⟩)
    apply fin_tup (by simp)
    · refine Sub.trans (Sub.foldAt 0 1 13 rfl (by simp [-gD] <;> omega) rfl (by decide) (by decide) rfl (by simp <;> omega)) ?_
      simp only [fS, qA, qC]
      refine Sub.trans (Sub.foldAt 1 1 16 rfl (by simp [-gD] <;> omega) rfl (by decide) (by decide) rfl (by simp <;> omega)) ?_
      simp only [fS, qA, qC]
      exact Sub.refl _
    · simp [-List.drop_one, -gD, threads_set, chans_set, l4ChanF, reg, setReg, h5] <;> (first | rfl | exact ⟨rfl, rfl⟩ | exact ⟨rfl, rfl, rfl⟩ | skip)
  by_cases h7 : x.op = 7
  · simp only [go_sem, qA, qB, qC, qD, qE, qF, qG, qH, h7, gt, gc, Int.toNat_natCast, ints_getD (s.ths.getD i default).regs x.a.toNat ra, ints_getD (s.ths.getD i default).regs x.r.toNat rr]
    repeat (refine ⟨(by first | omega | (simp [-gD]; first | done | omega)), ?_⟩)
    refine dcall_intro (call_ok0 [] (specChanSend_ok (s.chs.getD x.n.toNat default) ((s.ths.getD i default).regs.getD x.a.toNat 0) (by omega)) ?_ ?_ ?_ ?_ ?_ ?_) ?_ ?_
    any_goals (first | omega | (simp [nilL, nilV]; done) | (simp [nilL, nilV, *]; done))
    try simp only [go_sem, qA, qB, qC, qD, qE, qF, qG, qH]
    repeat (refine ⟨(by first | omega | (simp [-gD]; first | done | omega)), ?_⟩)
    try simp only [go_sem, qA, qB, qC, qD, qE, qF, qG, qH, h7, gt, gc, Int.toNat_natCast, ints_getD (s.ths.getD i default).regs x.a.toNat ra, ints_getD (s.ths.getD i default).regs x.r.toNat rr]
    repeat (refine ⟨(by first | omega | (simp [-gD]; first | done | omega)), ?_⟩)
    by_cases hk : (chanSend (s.chs.getD x.n.toNat default) ((s.ths.getD i default).regs.getD x.a.toNat 0)).2 = 2
    · simp only [go_sem, qA, qB, qC, qD, qE, qF, qG, qH, h7, hk, gt, gc, Int.toNat_natCast, ints_getD (s.ths.getD i default).regs x.a.toNat ra, ints_getD (s.ths.getD i default).regs x.r.toNat rr]
      repeat (refine ⟨(by first | omega | (simp [-gD]; first | done | omega)), ?_⟩)
      apply fin_tup (by simp)
      · refine Sub.trans (Sub.foldAt 0 1 13 rfl (by simp [-gD] <;> omega) rfl (by decide) (by decide) rfl (by simp <;> omega)) ?_
        simp only [fS, qA, qC]
        refine Sub.trans (Sub.foldAt 1 1 16 rfl (by simp [-gD] <;> omega) rfl (by decide) (by decide) rfl (by simp <;> omega)) ?_
        simp only [fS, qA, qC]
        exact Sub.refl _
      · simp [-List.drop_one, -gD, threads_set, chans_set, l4ChanF, reg, setReg, h7, hk] <;> (first | rfl | exact ⟨rfl, rfl⟩ | exact ⟨rfl, rfl, rfl⟩ | skip)
    · simp only [go_sem, qA, qB, qC, qD, qE, qF, qG, qH, h7, hk, gt, gc, Int.toNat_natCast, ints_getD (s.ths.getD i default).regs x.a.toNat ra, ints_getD (s.ths.getD i default).regs x.r.toNat rr]
      repeat (refine ⟨(by first | omega | (simp [-gD]; first | done | omega)), ?_⟩)
      refine dcall_intro (call_ok0 [] (l4Bit_ok (decide ((chanSend (s.chs.getD x.n.toNat default) ((s.ths.getD i default).regs.getD x.a.toNat 0)).2 = 0))) ?_ ?_ ?_ ?_ ?_ ?_) ?_ ?_
      any_goals (first | omega | (simp [nilL, nilV]; done) | (simp [nilL, nilV, *]; done))
      try simp only [go_sem, qA, qB, qC, qD, qE, qF, qG, qH]
      repeat (refine ⟨(by first | omega | (simp [-gD]; first | done | omega)), ?_⟩)
      try simp only [go_sem, qA, qB, qC, qD, qE, qF, qG, qH, h7, hk, gt, gc, Int.toNat_natCast, ints_getD (s.ths.getD i default).regs x.a.toNat ra, ints_getD (s.ths.getD i default).regs x.r.toNat rr]
      repeat (refine ⟨(by first | omega | (simp [-gD]; first | done | omega)), ?_⟩)
      apply fin_tup (by simp)
      · refine Sub.trans (Sub.foldAt 0 1 13 rfl (by simp [-gD] <;> omega) rfl (by decide) (by decide) rfl (by simp <;> omega)) ?_
        simp only [fS, qA, qC]
        refine Sub.trans (Sub.foldAt 1 1 16 rfl (by simp [-gD] <;> omega) rfl (by decide) (by decide) rfl (by simp <;> omega)) ?_
        simp only [fS, qA, qC]
        exact Sub.refl _
      · simp [-List.drop_one, -gD, threads_set, chans_set, l4ChanF, reg, setReg, h7, hk] <;> (first | rfl | exact ⟨rfl, rfl⟩ | exact ⟨rfl, rfl, rfl⟩ | skip)
  by_cases h9 : x.op = 9
  · simp only [go_sem, qA, qB, qC, qD, qE, qF, qG, qH, h9, gt, gc, Int.toNat_natCast, ints_getD (s.ths.getD i default).regs x.a.toNat ra, ints_getD (s.ths.getD i default).regs x.r.toNat rr]
    repeat (refine ⟨(by first | omega | (simp [-gD]; first | done | omega)), ?_⟩)
    refine calls_intro (call_ok0 [] (specChanClose_ok (s.chs.getD x.n.toNat default) (by omega)) ?_ ?_ ?_ ?_ ?_ ?_) ?_
    any_goals (first | omega | (simp [nilL, nilV]; done) | (simp [nilL, nilV, *]; done))
    try simp only [go_sem, qA, qB, qC, qD, qE, qF, qG, qH]
    repeat (refine ⟨(by first | omega | (simp [-gD]; first | done | omega)), ?_⟩)
    try simp only [go_sem, qA, qB, qC, qD, qE, qF, qG, qH, h9, gt, gc, Int.toNat_natCast, ints_getD (s.ths.getD i default).regs x.a.toNat ra, ints_getD (s.ths.getD i default).regs x.r.toNat rr]
    repeat (refine ⟨(by first | omega | (simp [-gD]; first | done | omega)), ?_⟩)
    apply fin_tup (by simp)
    · refine Sub.trans (Sub.foldAt 0 1 13 rfl (by simp [-gD] <;> omega) rfl (by decide) (by decide) rfl (by simp <;> omega)) ?_
      simp only [fS, qA, qC]
      refine Sub.trans (Sub.foldAt 1 1 16 rfl (by simp [-gD] <;> omega) rfl (by decide) (by decide) rfl (by simp <;> omega)) ?_
      simp only [fS, qA, qC]
      exact Sub.refl _
    · simp [-List.drop_one, -gD, threads_set, chans_set, l4ChanF, reg, setReg, h9] <;> (first | rfl | exact ⟨rfl, rfl⟩ | exact ⟨rfl, rfl, rfl⟩ | skip)
  by_cases h6 : x.op = 6
  · simp only [go_sem, qA, qB, qC, qD, qE, qF, qG, qH, h6, gt, gc, Int.toNat_natCast, ints_getD (s.ths.getD i default).regs x.a.toNat ra, ints_getD (s.ths.getD i default).regs x.r.toNat rr]
    repeat (refine ⟨(by first | omega | (simp [-gD]; first | done | omega)), ?_⟩)
    refine calls_intro (call_ok0 [] (specChanTake_ok (s.chs.getD x.n.toNat default) (by omega)) ?_ ?_ ?_ ?_ ?_ ?_) ?_
    any_goals (first | omega | (simp [nilL, nilV]; done) | (simp [nilL, nilV, *]; done))
    try simp only [go_sem, qA, qB, qC, qD, qE, qF, qG, qH]
    repeat (refine ⟨(by first | omega | (simp [-gD]; first | done | omega)), ?_⟩)
    try simp only [go_sem, qA, qB, qC, qD, qE, qF, qG, qH, h6, gt, gc, Int.toNat_natCast, ints_getD (s.ths.getD i default).regs x.a.toNat ra, ints_getD (s.ths.getD i default).regs x.r.toNat rr]
    repeat (refine ⟨(by first | omega | (simp [-gD]; first | done | omega)), ?_⟩)
    by_cases hk : (chanTake (s.chs.getD x.n.toNat default)).2.2 = 1
    · simp only [go_sem, qA, qB, qC, qD, qE, qF, qG, qH, h6, hk, gt, gc, Int.toNat_natCast, ints_getD (s.ths.getD i default).regs x.a.toNat ra, ints_getD (s.ths.getD i default).regs x.r.toNat rr]
      repeat (refine ⟨(by first | omega | (simp [-gD]; first | done | omega)), ?_⟩)
      apply fin_tup (by simp)
      · refine Sub.trans (Sub.foldAt 0 1 13 rfl (by simp [-gD] <;> omega) rfl (by decide) (by decide) rfl (by simp <;> omega)) ?_
        simp only [fS, qA, qC]
        refine Sub.trans (Sub.foldAt 1 1 16 rfl (by simp [-gD] <;> omega) rfl (by decide) (by decide) rfl (by simp <;> omega)) ?_
        simp only [fS, qA, qC]
        exact Sub.refl _
      · simp [-List.drop_one, -gD, threads_set, chans_set, l4ChanF, reg, setReg, h6, hk] <;> (first | rfl | exact ⟨rfl, rfl⟩ | exact ⟨rfl, rfl, rfl⟩ | skip)
    · simp only [go_sem, qA, qB, qC, qD, qE, qF, qG, qH, h6, hk, gt, gc, Int.toNat_natCast, ints_getD (s.ths.getD i default).regs x.a.toNat ra, ints_getD (s.ths.getD i default).regs x.r.toNat rr]
      repeat (refine ⟨(by first | omega | (simp [-gD]; first | done | omega)), ?_⟩)
      refine dcall_intro (call_ok0 [] (l4Bit_ok (decide ((chanTake (s.chs.getD x.n.toNat default)).2.2 = 0))) ?_ ?_ ?_ ?_ ?_ ?_) ?_ ?_
      any_goals (first | omega | (simp [nilL, nilV]; done) | (simp [nilL, nilV, *]; done))
      try simp only [go_sem, qA, qB, qC, qD, qE, qF, qG, qH]
      repeat (refine ⟨(by first | omega | (simp [-gD]; first | done | omega)), ?_⟩)
      try simp only [go_sem, qA, qB, qC, qD, qE, qF, qG, qH, h6, hk, gt, gc, Int.toNat_natCast, ints_getD (s.ths.getD i default).regs x.a.toNat ra, ints_getD (s.ths.getD i default).regs x.r.toNat rr, ints_getD _ x.b.toNat (rbs _)]
      repeat (refine ⟨(by first | omega | (simp [-gD]; first | done | omega)), ?_⟩)
      apply fin_tup (by simp)
      · refine Sub.trans (Sub.foldAt 0 1 13 rfl (by simp [-gD] <;> omega) rfl (by decide) (by decide) rfl (by simp <;> omega)) ?_
        simp only [fS, qA, qC]
        refine Sub.trans (Sub.foldAt 1 1 16 rfl (by simp [-gD] <;> omega) rfl (by decide) (by decide) rfl (by simp <;> omega)) ?_
        simp only [fS, qA, qC]
        exact Sub.refl _
      · simp [-List.drop_one, -gD, threads_set, chans_set, l4ChanF, reg, setReg, h6, hk] <;> (first | rfl | exact ⟨rfl, rfl⟩ | exact ⟨rfl, rfl, rfl⟩ | skip)
  simp only [go_sem, qA, qB, qC, qD, qE, qF, qG, qH, h5, h6, h7, h9, gt, gc, Int.toNat_natCast, ints_getD (s.ths.getD i default).regs x.a.toNat ra, ints_getD (s.ths.getD i default).regs x.r.toNat rr]
  repeat (refine ⟨(by first | omega | (simp [-gD]; first | done | omega)), ?_⟩)
  refine calls_intro (call_ok0 [] (specChanTake_ok (s.chs.getD x.n.toNat default) (by omega)) ?_ ?_ ?_ ?_ ?_ ?_) ?_
  any_goals (first | omega | (simp [nilL, nilV]; done) | (simp [nilL, nilV, *]; done))
  try simp only [go_sem, qA, qB, qC, qD, qE, qF, qG, qH]
  repeat (refine ⟨(by first | omega | (simp [-gD]; first | done | omega)), ?_⟩)
  obtain ⟨c0, c1⟩ := chanTake_code (s.chs.getD x.n.toNat default)
  have hk : (chanTake (s.chs.getD x.n.toNat default)).2.2.toNat < 4 := by omega
  have hl4 : ints [1, 0, 0, 2] = [[AV.int .i64 1], [.int .i64 0], [.int .i64 0], [.int .i64 2]] := rfl
  have hg : ([[AV.int .i64 1], [.int .i64 0], [.int .i64 0], [.int .i64 2]] : List (List AV)).getD (chanTake (s.chs.getD x.n.toNat default)).2.2.toNat [] = [.int .i64 ([1, 0, 0, 2].getD (chanTake (s.chs.getD x.n.toNat default)).2.2.toNat 0)] := by
    rw [← hl4]
    exact ints_getD _ _ hk
  try simp only [go_sem, qA, qB, qC, qD, qE, qF, qG, qH, h5, h6, h7, h9, gt, gc, Int.toNat_natCast, ints_getD (s.ths.getD i default).regs x.a.toNat ra, ints_getD (s.ths.getD i default).regs x.r.toNat rr, ints_getD _ x.b.toNat (rbs _), hg]
  repeat (refine ⟨(by first | omega | (simp [-gD]; first | done | omega)), ?_⟩)
  apply fin_tup (by simp)
  · refine Sub.trans (Sub.foldAt 0 1 13 rfl (by simp [-gD] <;> omega) rfl (by decide) (by decide) rfl (by simp <;> omega)) ?_
    simp only [fS, qA, qC]
    refine Sub.trans (Sub.foldAt 1 1 16 rfl (by simp [-gD] <;> omega) rfl (by decide) (by decide) rfl (by simp <;> omega)) ?_
    simp only [fS, qA, qC]
    exact Sub.refl _
  · simp [-List.drop_one, -gD, threads_set, chans_set, l4ChanF, reg, setReg, h5, h6, h7, h9] <;> (first | rfl | exact ⟨rfl, rfl⟩ | exact ⟨rfl, rfl, rfl⟩ | skip)

def l4StepF (p : Prog) (s : Source) (i : Nat) : Source × Int :=
  if (ins p s i).op = 1 then (l4GoF p ⟨s.ths.set i (setReg (s.ths.getD i default) (ins p s i).r (ins p s i).n), s.chs, s.tr⟩ i ((s.ths.getD i default).at_ + 1), 0)
  else if (ins p s i).op = 2 ∨ (ins p s i).op = 3 ∨ (ins p s i).op = 4 then
    (l4GoF p ⟨s.ths.set i (setReg (s.ths.getD i default) (ins p s i).r (compute (ins p s i).op (reg (s.ths.getD i default) (ins p s i).a) (reg (s.ths.getD i default) (ins p s i).b))), s.chs, s.tr⟩ i ((s.ths.getD i default).at_ + 1), 0)
  else if (ins p s i).op = 10 then if (s.tr.length : Int) = 4000 then (s, 3) else (l4GoF p ⟨s.ths, s.chs, s.tr ++ [⟨i, reg (s.ths.getD i default) (ins p s i).a⟩]⟩ i ((s.ths.getD i default).at_ + 1), 0)
  else if (ins p s i).op = 11 then (l4GoF p s i (ins p s i).n, 0)
  else if (ins p s i).op = 12 then (l4GoF p s i (if reg (s.ths.getD i default) (ins p s i).a = 0 then (ins p s i).n else (s.ths.getD i default).at_ + 1), 0)
  else if (ins p s i).op = 13 then (⟨s.ths.set i ⟨(s.ths.getD i default).at_, (s.ths.getD i default).regs, 1⟩, s.chs, s.tr⟩, 0)
  else if (l4ChanF (s.ths.getD i default) (s.chs.getD (ins p s i).n.toNat default) (ins p s i)).2.2 = 1 then
    (⟨s.ths.set i (l4ChanF (s.ths.getD i default) (s.chs.getD (ins p s i).n.toNat default) (ins p s i)).1, s.chs.set (ins p s i).n.toNat (l4ChanF (s.ths.getD i default) (s.chs.getD (ins p s i).n.toNat default) (ins p s i)).2.1, s.tr⟩, 4)
  else if (l4ChanF (s.ths.getD i default) (s.chs.getD (ins p s i).n.toNat default) (ins p s i)).2.2 = 2 then
    (⟨s.ths.set i ⟨(l4ChanF (s.ths.getD i default) (s.chs.getD (ins p s i).n.toNat default) (ins p s i)).1.at_, (l4ChanF (s.ths.getD i default) (s.chs.getD (ins p s i).n.toNat default) (ins p s i)).1.regs, 2⟩, s.chs.set (ins p s i).n.toNat (l4ChanF (s.ths.getD i default) (s.chs.getD (ins p s i).n.toNat default) (ins p s i)).2.1, s.tr⟩, 0)
  else (l4GoF p ⟨s.ths.set i (l4ChanF (s.ths.getD i default) (s.chs.getD (ins p s i).n.toNat default) (ins p s i)).1, s.chs.set (ins p s i).n.toNat (l4ChanF (s.ths.getD i default) (s.chs.getD (ins p s i).n.toNat default) (ins p s i)).2.1, s.tr⟩ i ((s.ths.getD i default).at_ + 1), 0)

set_option maxHeartbeats 4000000 in
theorem l4Step_ok (p : Prog) (s : Source) (i : Nat) (hp : SmallP p) (hs : Small s) (h : sourceOk p s = true) (hi : i < s.ths.length) (htr : s.tr.length ≤ 4000) : CallOk Try.prog num 66 [.agg (progC .bw p), srcV s, .int .i64 i] (srcF s) (.tup [.agg (sourceC .own (l4StepF p s i).1), .int .i64 (l4StepF p s i).2]) := by
  have w1 := hi
  obtain ⟨hs1, hs2, hs3, hs4, hs5⟩ := hs
  refine enter (m := m66) (f := 66) (fn := Try.f150) Try.func150 (by kernel_rfl) rfl c66 rfl (by simp [Try.f150]) (by simp [bnds, bnd, nf_sl, nf_int, nf_bool, nf_str, ints_bnd]) (srcF_hb s) ?_
  unfold m66
  have ha := at_of h hi
  have e1 := ha.at0
  have e2 := ha.at1
  have e3 := ha.hb
  have e4 := ha.regs
  have e5 := ha.len
  have r0 := ha.r0
  have r1 := ha.r1
  have a0 := ha.a0
  have a1 := ha.a1
  have b0 := ha.b0
  have b1 := ha.b1
  have hx : (p.bods.getD i []).getD (s.ths.getD i default).at_.toNat default = ins p s i := rfl
  have gt : ∀ r, ((threads .own s.ths).set i r).getD i [] = r := fun r => getD_set_self _ _ _ _ (by rw [threads_length]; exact w1)
  have ra : (ins p s i).a.toNat < (s.ths.getD i default).regs.length := by omega
  have rr : (ins p s i).r.toNat < (s.ths.getD i default).regs.length := by omega
  have rb : (ins p s i).b.toNat < (s.ths.getD i default).regs.length := by omega
  have hw1 : IntKind.i64.wrap ((s.ths.getD i default).at_ + 1) = (s.ths.getD i default).at_ + 1 := wrap64 (by omega) (by omega)
  simp only [go_sem, qA, qB, qC, qD, qE, qF, qG, qH, srcF, srcV, gt, threads_getD .own s.ths i w1, bodies_getD .bw p.bods i ha.hb, Int.toNat_natCast, hw1, inss_getD (p.bods.getD i []) (s.ths.getD i default).at_.toNat ha.at1, hx]
  repeat (refine ⟨(by first | omega | (simp [-gD]; first | done | omega)), ?_⟩)
  have hself : s.ths.set i ⟨(s.ths.getD i default).at_, (s.ths.getD i default).regs, (s.ths.getD i default).st⟩ = s.ths := set_getD_self s.ths i default w1
  by_cases h1 : (ins p s i).op = 1
  · simp only [go_sem, qA, qB, qC, qD, qE, qF, qG, qH, h1, srcF, gt, threads_getD .own s.ths i w1, bodies_getD .bw p.bods i ha.hb, Int.toNat_natCast, ints_getD (s.ths.getD i default).regs (ins p s i).r.toNat rr, ints_getD (s.ths.getD i default).regs (ins p s i).a.toNat ra, ints_getD (s.ths.getD i default).regs (ins p s i).b.toNat rb, hw1]
    repeat (refine ⟨(by first | omega | (simp [-gD]; first | done | omega)), ?_⟩)
    apply calls_mk
    · refine Sub.trans (Sub.foldAt 0 1 14 rfl (by simp [-gD] <;> omega) rfl (by decide) (by decide) rfl (by simp <;> omega)) ?_
      simp only [fS, qA, qC, threads_set]
      exact Sub.refl _
    refine calls_intro (call_ok0 [(0, 0), (1, 1), (2, 2)] (l4Go_ok p ⟨s.ths.set i ⟨(s.ths.getD i default).at_, (s.ths.getD i default).regs.set (ins p s i).r.toNat (ins p s i).n, (s.ths.getD i default).st⟩, s.chs, s.tr⟩ i ((s.ths.getD i default).at_ + 1) (by simp; exact w1) e3 (by omega)) ?_ ?_ ?_ ?_ ?_ ?_) ?_
    any_goals (first | omega | (simp [nilL, nilV]; done) | (simp [nilL, nilV, *]; done))
    try simp only [go_sem, qA, qB, qC, qD, qE, qF, qG, qH]
    repeat (refine ⟨(by first | omega | (simp [-gD]; first | done | omega)), ?_⟩)
    try simp only [go_sem, qA, qB, qC, qD, qE, qF, qG, qH, h1, srcF, gt, threads_getD .own s.ths i w1, bodies_getD .bw p.bods i ha.hb, Int.toNat_natCast, ints_getD (s.ths.getD i default).regs (ins p s i).r.toNat rr, ints_getD (s.ths.getD i default).regs (ins p s i).a.toNat ra, ints_getD (s.ths.getD i default).regs (ins p s i).b.toNat rb, hw1]
    repeat (refine ⟨(by first | omega | (simp [-gD]; first | done | omega)), ?_⟩)
    apply fin_tup (by simp)
    · exact Sub.refl _
    · simp [-List.drop_one, -gD, threads_set, chans_set, l4StepF, setReg, reg, compute, h1] <;> (first | rfl | exact ⟨rfl, rfl⟩ | exact ⟨rfl, rfl, rfl⟩ | skip)
  by_cases h2 : (ins p s i).op = 2
  · simp only [go_sem, qA, qB, qC, qD, qE, qF, qG, qH, h2, srcF, gt, threads_getD .own s.ths i w1, bodies_getD .bw p.bods i ha.hb, Int.toNat_natCast, ints_getD (s.ths.getD i default).regs (ins p s i).r.toNat rr, ints_getD (s.ths.getD i default).regs (ins p s i).a.toNat ra, ints_getD (s.ths.getD i default).regs (ins p s i).b.toNat rb, hw1]
    repeat (refine ⟨(by first | omega | (simp [-gD]; first | done | omega)), ?_⟩)
    apply calls_mk
    · refine Sub.trans (Sub.foldAt 0 1 14 rfl (by simp [-gD] <;> omega) rfl (by decide) (by decide) rfl (by simp <;> omega)) ?_
      simp only [fS, qA, qC, threads_set]
      exact Sub.refl _
    refine calls_intro (call_ok0 [(0, 0), (1, 1), (2, 2)] (l4Go_ok p ⟨s.ths.set i ⟨(s.ths.getD i default).at_, (s.ths.getD i default).regs.set (ins p s i).r.toNat (IntKind.i64.wrap ((s.ths.getD i default).regs.getD (ins p s i).a.toNat 0 + (s.ths.getD i default).regs.getD (ins p s i).b.toNat 0)), (s.ths.getD i default).st⟩, s.chs, s.tr⟩ i ((s.ths.getD i default).at_ + 1) (by simp; exact w1) e3 (by omega)) ?_ ?_ ?_ ?_ ?_ ?_) ?_
    any_goals (first | omega | (simp [nilL, nilV]; done) | (simp [nilL, nilV, *]; done))
    try simp only [go_sem, qA, qB, qC, qD, qE, qF, qG, qH]
    repeat (refine ⟨(by first | omega | (simp [-gD]; first | done | omega)), ?_⟩)
    try simp only [go_sem, qA, qB, qC, qD, qE, qF, qG, qH, h2, srcF, gt, threads_getD .own s.ths i w1, bodies_getD .bw p.bods i ha.hb, Int.toNat_natCast, ints_getD (s.ths.getD i default).regs (ins p s i).r.toNat rr, ints_getD (s.ths.getD i default).regs (ins p s i).a.toNat ra, ints_getD (s.ths.getD i default).regs (ins p s i).b.toNat rb, hw1]
    repeat (refine ⟨(by first | omega | (simp [-gD]; first | done | omega)), ?_⟩)
    apply fin_tup (by simp)
    · exact Sub.refl _
    · simp [-List.drop_one, -gD, threads_set, chans_set, l4StepF, setReg, reg, compute, h2] <;> (first | rfl | exact ⟨rfl, rfl⟩ | exact ⟨rfl, rfl, rfl⟩ | skip)
  by_cases h3 : (ins p s i).op = 3
  · simp only [go_sem, qA, qB, qC, qD, qE, qF, qG, qH, h3, srcF, gt, threads_getD .own s.ths i w1, bodies_getD .bw p.bods i ha.hb, Int.toNat_natCast, ints_getD (s.ths.getD i default).regs (ins p s i).r.toNat rr, ints_getD (s.ths.getD i default).regs (ins p s i).a.toNat ra, ints_getD (s.ths.getD i default).regs (ins p s i).b.toNat rb, hw1]
    repeat (refine ⟨(by first | omega | (simp [-gD]; first | done | omega)), ?_⟩)
    apply calls_mk
    · refine Sub.trans (Sub.foldAt 0 1 14 rfl (by simp [-gD] <;> omega) rfl (by decide) (by decide) rfl (by simp <;> omega)) ?_
      simp only [fS, qA, qC, threads_set]
      exact Sub.refl _
    refine calls_intro (call_ok0 [(0, 0), (1, 1), (2, 2)] (l4Go_ok p ⟨s.ths.set i ⟨(s.ths.getD i default).at_, (s.ths.getD i default).regs.set (ins p s i).r.toNat (IntKind.i64.wrap ((s.ths.getD i default).regs.getD (ins p s i).a.toNat 0 - (s.ths.getD i default).regs.getD (ins p s i).b.toNat 0)), (s.ths.getD i default).st⟩, s.chs, s.tr⟩ i ((s.ths.getD i default).at_ + 1) (by simp; exact w1) e3 (by omega)) ?_ ?_ ?_ ?_ ?_ ?_) ?_
    any_goals (first | omega | (simp [nilL, nilV]; done) | (simp [nilL, nilV, *]; done))
    try simp only [go_sem, qA, qB, qC, qD, qE, qF, qG, qH]
    repeat (refine ⟨(by first | omega | (simp [-gD]; first | done | omega)), ?_⟩)
    try simp only [go_sem, qA, qB, qC, qD, qE, qF, qG, qH, h3, srcF, gt, threads_getD .own s.ths i w1, bodies_getD .bw p.bods i ha.hb, Int.toNat_natCast, ints_getD (s.ths.getD i default).regs (ins p s i).r.toNat rr, ints_getD (s.ths.getD i default).regs (ins p s i).a.toNat ra, ints_getD (s.ths.getD i default).regs (ins p s i).b.toNat rb, hw1]
    repeat (refine ⟨(by first | omega | (simp [-gD]; first | done | omega)), ?_⟩)
    apply fin_tup (by simp)
    · exact Sub.refl _
    · simp [-List.drop_one, -gD, threads_set, chans_set, l4StepF, setReg, reg, compute, h3] <;> (first | rfl | exact ⟨rfl, rfl⟩ | exact ⟨rfl, rfl, rfl⟩ | skip)
  by_cases h4 : (ins p s i).op = 4
  · simp only [go_sem, qA, qB, qC, qD, qE, qF, qG, qH, h4, srcF, gt, threads_getD .own s.ths i w1, bodies_getD .bw p.bods i ha.hb, Int.toNat_natCast, ints_getD (s.ths.getD i default).regs (ins p s i).r.toNat rr, ints_getD (s.ths.getD i default).regs (ins p s i).a.toNat ra, ints_getD (s.ths.getD i default).regs (ins p s i).b.toNat rb, hw1]
    repeat (refine ⟨(by first | omega | (simp [-gD]; first | done | omega)), ?_⟩)
    refine dcall_intro (call_ok0 [] (l4Bit_ok (decide ((s.ths.getD i default).regs.getD (ins p s i).a.toNat 0 < (s.ths.getD i default).regs.getD (ins p s i).b.toNat 0))) ?_ ?_ ?_ ?_ ?_ ?_) ?_ ?_
    any_goals (first | omega | (simp [nilL, nilV]; done) | (simp [nilL, nilV, *]; done))
    try simp only [go_sem, qA, qB, qC, qD, qE, qF, qG, qH]
    repeat (refine ⟨(by first | omega | (simp [-gD]; first | done | omega)), ?_⟩)
    try simp only [go_sem, qA, qB, qC, qD, qE, qF, qG, qH, h4, srcF, gt, threads_getD .own s.ths i w1, bodies_getD .bw p.bods i ha.hb, Int.toNat_natCast, ints_getD (s.ths.getD i default).regs (ins p s i).r.toNat rr, ints_getD (s.ths.getD i default).regs (ins p s i).a.toNat ra, ints_getD (s.ths.getD i default).regs (ins p s i).b.toNat rb, hw1]
    repeat (refine ⟨(by first | omega | (simp [-gD]; first | done | omega)), ?_⟩)
    apply calls_mk
    · refine Sub.trans (Sub.foldAt 0 1 14 rfl (by simp [-gD] <;> omega) rfl (by decide) (by decide) rfl (by simp <;> omega)) ?_
      simp only [fS, qA, qC, threads_set]
      exact Sub.refl _
    refine calls_intro (call_ok0 [(0, 0), (1, 1), (2, 2)] (l4Go_ok p ⟨s.ths.set i ⟨(s.ths.getD i default).at_, (s.ths.getD i default).regs.set (ins p s i).r.toNat (numb (decide ((s.ths.getD i default).regs.getD (ins p s i).a.toNat 0 < (s.ths.getD i default).regs.getD (ins p s i).b.toNat 0))), (s.ths.getD i default).st⟩, s.chs, s.tr⟩ i ((s.ths.getD i default).at_ + 1) (by simp; exact w1) e3 (by omega)) ?_ ?_ ?_ ?_ ?_ ?_) ?_
    any_goals (first | omega | (simp [nilL, nilV]; done) | (simp [nilL, nilV, *]; done))
    try simp only [go_sem, qA, qB, qC, qD, qE, qF, qG, qH]
    repeat (refine ⟨(by first | omega | (simp [-gD]; first | done | omega)), ?_⟩)
    try simp only [go_sem, qA, qB, qC, qD, qE, qF, qG, qH, h4, srcF, gt, threads_getD .own s.ths i w1, bodies_getD .bw p.bods i ha.hb, Int.toNat_natCast, ints_getD (s.ths.getD i default).regs (ins p s i).r.toNat rr, ints_getD (s.ths.getD i default).regs (ins p s i).a.toNat ra, ints_getD (s.ths.getD i default).regs (ins p s i).b.toNat rb, hw1]
    repeat (refine ⟨(by first | omega | (simp [-gD]; first | done | omega)), ?_⟩)
    apply fin_tup (by simp)
    · exact Sub.refl _
    · simp [-List.drop_one, -gD, threads_set, chans_set, l4StepF, setReg, reg, compute, h4] <;> (first | rfl | exact ⟨rfl, rfl⟩ | exact ⟨rfl, rfl, rfl⟩ | skip)
  by_cases h10 : (ins p s i).op = 10
  · simp only [go_sem, qA, qB, qC, qD, qE, qF, qG, qH, h10, srcF, gt, threads_getD .own s.ths i w1, bodies_getD .bw p.bods i ha.hb, Int.toNat_natCast, ints_getD (s.ths.getD i default).regs (ins p s i).r.toNat rr, ints_getD (s.ths.getD i default).regs (ins p s i).a.toNat ra, ints_getD (s.ths.getD i default).regs (ins p s i).b.toNat rb, hw1]
    repeat (refine ⟨(by first | omega | (simp [-gD]; first | done | omega)), ?_⟩)
    by_cases hn : (s.tr.length : Int) = 4000
    · simp only [go_sem, qA, qB, qC, qD, qE, qF, qG, qH, h10, hn, srcF, gt, threads_getD .own s.ths i w1, bodies_getD .bw p.bods i ha.hb, Int.toNat_natCast, ints_getD (s.ths.getD i default).regs (ins p s i).r.toNat rr, ints_getD (s.ths.getD i default).regs (ins p s i).a.toNat ra, ints_getD (s.ths.getD i default).regs (ins p s i).b.toNat rb, hw1]
      repeat (refine ⟨(by first | omega | (simp [-gD]; first | done | omega)), ?_⟩)
      apply fin_tup (by simp)
      · refine Sub.trans (Sub.foldAt 0 1 14 rfl (by simp [-gD] <;> omega) rfl (by decide) (by decide) rfl (by simp <;> omega)) ?_
        simp only [fS, qA, qC, threads_set]
        exact Sub.refl _
      · simp [-List.drop_one, -gD, threads_set, chans_set, l4StepF, setReg, reg, compute, h10, hn, hself] <;> (first | rfl | exact ⟨rfl, rfl⟩ | exact ⟨rfl, rfl, rfl⟩ | skip)
    · simp only [go_sem, qA, qB, qC, qD, qE, qF, qG, qH, h10, hn, srcF, gt, threads_getD .own s.ths i w1, bodies_getD .bw p.bods i ha.hb, Int.toNat_natCast, ints_getD (s.ths.getD i default).regs (ins p s i).r.toNat rr, ints_getD (s.ths.getD i default).regs (ins p s i).a.toNat ra, ints_getD (s.ths.getD i default).regs (ins p s i).b.toNat rb, hw1]
      repeat (refine ⟨(by first | omega | (simp [-gD]; first | done | omega)), ?_⟩)
      apply calls_mk
      · refine Sub.trans (Sub.foldAt 0 1 14 rfl (by simp [-gD] <;> omega) rfl (by decide) (by decide) rfl (by simp <;> omega)) ?_
        simp only [fS, qA, qC, threads_set, hself, notes_one, notes_append]
        exact Sub.refl _
      refine calls_intro (call_ok0 [(0, 0), (1, 1), (2, 16)] (l4Go_ok p ⟨s.ths, s.chs, s.tr ++ [⟨i, (s.ths.getD i default).regs.getD (ins p s i).a.toNat 0⟩]⟩ i ((s.ths.getD i default).at_ + 1) w1 e3 (by omega)) ?_ ?_ ?_ ?_ ?_ ?_) ?_
      any_goals (first | omega | (simp [nilL, nilV]; done) | (simp [nilL, nilV, *]; done))
      try simp only [go_sem, qA, qB, qC, qD, qE, qF, qG, qH]
      repeat (refine ⟨(by first | omega | (simp [-gD]; first | done | omega)), ?_⟩)
      try simp only [go_sem, qA, qB, qC, qD, qE, qF, qG, qH, h10, hn, srcF, gt, threads_getD .own s.ths i w1, bodies_getD .bw p.bods i ha.hb, Int.toNat_natCast, ints_getD (s.ths.getD i default).regs (ins p s i).r.toNat rr, ints_getD (s.ths.getD i default).regs (ins p s i).a.toNat ra, ints_getD (s.ths.getD i default).regs (ins p s i).b.toNat rb, hw1]
      repeat (refine ⟨(by first | omega | (simp [-gD]; first | done | omega)), ?_⟩)
      apply fin_tup (by simp)
      · exact Sub.refl _
      · simp [-List.drop_one, -gD, threads_set, chans_set, l4StepF, setReg, reg, compute, h10, hn] <;> (first | rfl | exact ⟨rfl, rfl⟩ | exact ⟨rfl, rfl, rfl⟩ | skip)
  by_cases h11 : (ins p s i).op = 11
  · simp only [go_sem, qA, qB, qC, qD, qE, qF, qG, qH, h11, srcF, gt, threads_getD .own s.ths i w1, bodies_getD .bw p.bods i ha.hb, Int.toNat_natCast, ints_getD (s.ths.getD i default).regs (ins p s i).r.toNat rr, ints_getD (s.ths.getD i default).regs (ins p s i).a.toNat ra, ints_getD (s.ths.getD i default).regs (ins p s i).b.toNat rb, hw1]
    repeat (refine ⟨(by first | omega | (simp [-gD]; first | done | omega)), ?_⟩)
    apply calls_mk
    · refine Sub.trans (Sub.foldAt 0 1 14 rfl (by simp [-gD] <;> omega) rfl (by decide) (by decide) rfl (by simp <;> omega)) ?_
      simp only [fS, qA, qC, threads_set, hself]
      exact Sub.refl _
    refine calls_intro (call_ok0 [(0, 0), (1, 1), (2, 2)] (l4Go_ok p s i ((ins p s i).n) w1 e3 (by omega)) ?_ ?_ ?_ ?_ ?_ ?_) ?_
    any_goals (first | omega | (simp [nilL, nilV]; done) | (simp [nilL, nilV, *]; done))
    try simp only [go_sem, qA, qB, qC, qD, qE, qF, qG, qH]
    repeat (refine ⟨(by first | omega | (simp [-gD]; first | done | omega)), ?_⟩)
    try simp only [go_sem, qA, qB, qC, qD, qE, qF, qG, qH, h11, srcF, gt, threads_getD .own s.ths i w1, bodies_getD .bw p.bods i ha.hb, Int.toNat_natCast, ints_getD (s.ths.getD i default).regs (ins p s i).r.toNat rr, ints_getD (s.ths.getD i default).regs (ins p s i).a.toNat ra, ints_getD (s.ths.getD i default).regs (ins p s i).b.toNat rb, hw1]
    repeat (refine ⟨(by first | omega | (simp [-gD]; first | done | omega)), ?_⟩)
    apply fin_tup (by simp)
    · exact Sub.refl _
    · simp [-List.drop_one, -gD, threads_set, chans_set, l4StepF, setReg, reg, compute, h11] <;> (first | rfl | exact ⟨rfl, rfl⟩ | exact ⟨rfl, rfl, rfl⟩ | skip)
  by_cases h12 : (ins p s i).op = 12
  · simp only [go_sem, qA, qB, qC, qD, qE, qF, qG, qH, h12, srcF, gt, threads_getD .own s.ths i w1, bodies_getD .bw p.bods i ha.hb, Int.toNat_natCast, ints_getD (s.ths.getD i default).regs (ins p s i).r.toNat rr, ints_getD (s.ths.getD i default).regs (ins p s i).a.toNat ra, ints_getD (s.ths.getD i default).regs (ins p s i).b.toNat rb, hw1]
    repeat (refine ⟨(by first | omega | (simp [-gD]; first | done | omega)), ?_⟩)
    by_cases hz : (s.ths.getD i default).regs.getD (ins p s i).a.toNat 0 = 0
    · simp only [go_sem, qA, qB, qC, qD, qE, qF, qG, qH, h12, hz, srcF, gt, threads_getD .own s.ths i w1, bodies_getD .bw p.bods i ha.hb, Int.toNat_natCast, ints_getD (s.ths.getD i default).regs (ins p s i).r.toNat rr, ints_getD (s.ths.getD i default).regs (ins p s i).a.toNat ra, ints_getD (s.ths.getD i default).regs (ins p s i).b.toNat rb, hw1]
      repeat (refine ⟨(by first | omega | (simp [-gD]; first | done | omega)), ?_⟩)
      apply calls_mk
      · refine Sub.trans (Sub.foldAt 0 1 14 rfl (by simp [-gD] <;> omega) rfl (by decide) (by decide) rfl (by simp <;> omega)) ?_
        simp only [fS, qA, qC, threads_set, hself]
        exact Sub.refl _
      refine calls_intro (call_ok0 [(0, 0), (1, 1), (2, 2)] (l4Go_ok p s i ((ins p s i).n) w1 e3 (by omega)) ?_ ?_ ?_ ?_ ?_ ?_) ?_
      any_goals (first | omega | (simp [nilL, nilV]; done) | (simp [nilL, nilV, *]; done))
      try simp only [go_sem, qA, qB, qC, qD, qE, qF, qG, qH]
      repeat (refine ⟨(by first | omega | (simp [-gD]; first | done | omega)), ?_⟩)
      try simp only [go_sem, qA, qB, qC, qD, qE, qF, qG, qH, h12, hz, srcF, gt, threads_getD .own s.ths i w1, bodies_getD .bw p.bods i ha.hb, Int.toNat_natCast, ints_getD (s.ths.getD i default).regs (ins p s i).r.toNat rr, ints_getD (s.ths.getD i default).regs (ins p s i).a.toNat ra, ints_getD (s.ths.getD i default).regs (ins p s i).b.toNat rb, hw1]
      repeat (refine ⟨(by first | omega | (simp [-gD]; first | done | omega)), ?_⟩)
      apply fin_tup (by simp)
      · exact Sub.refl _
      · simp [-List.drop_one, -gD, threads_set, chans_set, l4StepF, setReg, reg, compute, h12, hz] <;> (first | rfl | exact ⟨rfl, rfl⟩ | exact ⟨rfl, rfl, rfl⟩ | skip)
    · simp only [go_sem, qA, qB, qC, qD, qE, qF, qG, qH, h12, hz, srcF, gt, threads_getD .own s.ths i w1, bodies_getD .bw p.bods i ha.hb, Int.toNat_natCast, ints_getD (s.ths.getD i default).regs (ins p s i).r.toNat rr, ints_getD (s.ths.getD i default).regs (ins p s i).a.toNat ra, ints_getD (s.ths.getD i default).regs (ins p s i).b.toNat rb, hw1]
      repeat (refine ⟨(by first | omega | (simp [-gD]; first | done | omega)), ?_⟩)
      apply calls_mk
      · refine Sub.trans (Sub.foldAt 0 1 14 rfl (by simp [-gD] <;> omega) rfl (by decide) (by decide) rfl (by simp <;> omega)) ?_
        simp only [fS, qA, qC, threads_set, hself]
        exact Sub.refl _
      refine calls_intro (call_ok0 [(0, 0), (1, 1), (2, 2)] (l4Go_ok p s i ((s.ths.getD i default).at_ + 1) w1 e3 (by omega)) ?_ ?_ ?_ ?_ ?_ ?_) ?_
      any_goals (first | omega | (simp [nilL, nilV]; done) | (simp [nilL, nilV, *]; done))
      try simp only [go_sem, qA, qB, qC, qD, qE, qF, qG, qH]
      repeat (refine ⟨(by first | omega | (simp [-gD]; first | done | omega)), ?_⟩)
      try simp only [go_sem, qA, qB, qC, qD, qE, qF, qG, qH, h12, hz, srcF, gt, threads_getD .own s.ths i w1, bodies_getD .bw p.bods i ha.hb, Int.toNat_natCast, ints_getD (s.ths.getD i default).regs (ins p s i).r.toNat rr, ints_getD (s.ths.getD i default).regs (ins p s i).a.toNat ra, ints_getD (s.ths.getD i default).regs (ins p s i).b.toNat rb, hw1]
      repeat (refine ⟨(by first | omega | (simp [-gD]; first | done | omega)), ?_⟩)
      apply fin_tup (by simp)
      · exact Sub.refl _
      · simp [-List.drop_one, -gD, threads_set, chans_set, l4StepF, setReg, reg, compute, h12, hz] <;> (first | rfl | exact ⟨rfl, rfl⟩ | exact ⟨rfl, rfl, rfl⟩ | skip)
  by_cases h13 : (ins p s i).op = 13
  · simp only [go_sem, qA, qB, qC, qD, qE, qF, qG, qH, h13, srcF, gt, threads_getD .own s.ths i w1, bodies_getD .bw p.bods i ha.hb, Int.toNat_natCast, ints_getD (s.ths.getD i default).regs (ins p s i).r.toNat rr, ints_getD (s.ths.getD i default).regs (ins p s i).a.toNat ra, ints_getD (s.ths.getD i default).regs (ins p s i).b.toNat rb, hw1]
    repeat (refine ⟨(by first | omega | (simp [-gD]; first | done | omega)), ?_⟩)
    apply fin_tup (by simp)
    · refine Sub.trans (Sub.foldAt 0 1 14 rfl (by simp [-gD] <;> omega) rfl (by decide) (by decide) rfl (by simp <;> omega)) ?_
      simp only [fS, qA, qC, threads_set]
      exact Sub.refl _
    · simp [-List.drop_one, -gD, threads_set, chans_set, l4StepF, setReg, reg, compute, h13] <;> (first | rfl | exact ⟨rfl, rfl⟩ | exact ⟨rfl, rfl, rfl⟩ | skip)
  obtain ⟨n0, n1⟩ := ha.ch (by have := ha.op; omega) (by have := ha.op; omega)
  simp only [go_sem, qA, qB, qC, qD, qE, qF, qG, qH, h1, h2, h3, h4, h10, h11, h12, h13, srcF, gt, threads_getD .own s.ths i w1, bodies_getD .bw p.bods i ha.hb, Int.toNat_natCast, ints_getD (s.ths.getD i default).regs (ins p s i).r.toNat rr, ints_getD (s.ths.getD i default).regs (ins p s i).a.toNat ra, ints_getD (s.ths.getD i default).regs (ins p s i).b.toNat rb, hw1]
  repeat (refine ⟨(by first | omega | (simp [-gD]; first | done | omega)), ?_⟩)
  apply calls_mk
  · refine Sub.trans (Sub.foldAt 0 1 14 rfl (by simp [-gD] <;> omega) rfl (by decide) (by decide) rfl (by simp <;> omega)) ?_
    simp only [fS, qA, qC, threads_set, hself]
    exact Sub.refl _
  refine calls_intro (call_ok0 [(0, 0), (1, 1), (2, 2)] (l4Chan_ok s i (ins p s i) w1 n0 n1 e4 (hs5 _ (getD_mem s.chs _ default n1)) r0 r1 a0 a1 b0 b1) ?_ ?_ ?_ ?_ ?_ ?_) ?_
  any_goals (first | omega | (simp [nilL, nilV]; done) | (simp [nilL, nilV, *]; done))
  try simp only [go_sem, qA, qB, qC, qD, qE, qF, qG, qH]
  repeat (refine ⟨(by first | omega | (simp [-gD]; first | done | omega)), ?_⟩)
  have g3 : i < (s.ths.set i (l4ChanF (s.ths.getD i default) (s.chs.getD (ins p s i).n.toNat default) (ins p s i)).1).length := by rw [List.length_set]; exact w1
  have g4 : ∀ t : Thread, (s.ths.set i t).getD i default = t := fun t => getD_set_self _ _ _ _ w1
  try simp only [go_sem, qA, qB, qC, qD, qE, qF, qG, qH, h1, h2, h3, h4, h10, h11, h12, h13, srcF, gt, threads_getD .own s.ths i w1, bodies_getD .bw p.bods i ha.hb, Int.toNat_natCast, ints_getD (s.ths.getD i default).regs (ins p s i).r.toNat rr, ints_getD (s.ths.getD i default).regs (ins p s i).a.toNat ra, ints_getD (s.ths.getD i default).regs (ins p s i).b.toNat rb, hw1]
  repeat (refine ⟨(by first | omega | (simp [-gD]; first | done | omega)), ?_⟩)
  by_cases k1 : (l4ChanF (s.ths.getD i default) (s.chs.getD (ins p s i).n.toNat default) (ins p s i)).2.2 = 1
  · simp only [go_sem, qA, qB, qC, qD, qE, qF, qG, qH, k1, srcF, gt, threads_getD .own s.ths i w1, bodies_getD .bw p.bods i ha.hb, Int.toNat_natCast, ints_getD (s.ths.getD i default).regs (ins p s i).r.toNat rr, ints_getD (s.ths.getD i default).regs (ins p s i).a.toNat ra, ints_getD (s.ths.getD i default).regs (ins p s i).b.toNat rb, hw1]
    repeat (refine ⟨(by first | omega | (simp [-gD]; first | done | omega)), ?_⟩)
    apply fin_tup (by simp)
    · exact Sub.refl _
    · simp [-List.drop_one, -gD, threads_set, chans_set, l4StepF, setReg, reg, compute, h1, h2, h3, h4, h10, h11, h12, h13, k1] <;> (first | rfl | exact ⟨rfl, rfl⟩ | exact ⟨rfl, rfl, rfl⟩ | skip)
  by_cases k2 : (l4ChanF (s.ths.getD i default) (s.chs.getD (ins p s i).n.toNat default) (ins p s i)).2.2 = 2
  · simp only [go_sem, qA, qB, qC, qD, qE, qF, qG, qH, k2, srcF, gt, threads_getD .own s.ths i w1, bodies_getD .bw p.bods i ha.hb, Int.toNat_natCast, ints_getD (s.ths.getD i default).regs (ins p s i).r.toNat rr, ints_getD (s.ths.getD i default).regs (ins p s i).a.toNat ra, ints_getD (s.ths.getD i default).regs (ins p s i).b.toNat rb, hw1, threads_getD .own _ i g3, g4]
    repeat (refine ⟨(by first | omega | (simp [-gD]; first | done | omega)), ?_⟩)
    apply fin_tup (by simp)
    · exact Sub.refl _
    · simp [-List.drop_one, -gD, threads_set, chans_set, l4StepF, setReg, reg, compute, h1, h2, h3, h4, h10, h11, h12, h13, k2] <;> (first | rfl | exact ⟨rfl, rfl⟩ | exact ⟨rfl, rfl, rfl⟩ | skip)
  simp only [go_sem, qA, qB, qC, qD, qE, qF, qG, qH, k1, k2, srcF, gt, threads_getD .own s.ths i w1, bodies_getD .bw p.bods i ha.hb, Int.toNat_natCast, ints_getD (s.ths.getD i default).regs (ins p s i).r.toNat rr, ints_getD (s.ths.getD i default).regs (ins p s i).a.toNat ra, ints_getD (s.ths.getD i default).regs (ins p s i).b.toNat rb, hw1]
  repeat (refine ⟨(by first | omega | (simp [-gD]; first | done | omega)), ?_⟩)
  refine calls_intro (call_ok0 [(0, 15), (1, 16), (2, 17)] (l4Go_ok p ⟨s.ths.set i (l4ChanF (s.ths.getD i default) (s.chs.getD (ins p s i).n.toNat default) (ins p s i)).1, s.chs.set (ins p s i).n.toNat (l4ChanF (s.ths.getD i default) (s.chs.getD (ins p s i).n.toNat default) (ins p s i)).2.1, s.tr⟩ i ((s.ths.getD i default).at_ + 1) (by simp; exact w1) e3 (by omega)) ?_ ?_ ?_ ?_ ?_ ?_) ?_
  any_goals (first | omega | (simp [nilL, nilV]; done) | (simp [nilL, nilV, *]; done))
  try simp only [go_sem, qA, qB, qC, qD, qE, qF, qG, qH]
  repeat (refine ⟨(by first | omega | (simp [-gD]; first | done | omega)), ?_⟩)
  try simp only [go_sem, qA, qB, qC, qD, qE, qF, qG, qH, h1, h2, h3, h4, h10, h11, h12, h13, k1, k2, srcF, gt, threads_getD .own s.ths i w1, bodies_getD .bw p.bods i ha.hb, Int.toNat_natCast, ints_getD (s.ths.getD i default).regs (ins p s i).r.toNat rr, ints_getD (s.ths.getD i default).regs (ins p s i).a.toNat ra, ints_getD (s.ths.getD i default).regs (ins p s i).b.toNat rb, hw1]
  repeat (refine ⟨(by first | omega | (simp [-gD]; first | done | omega)), ?_⟩)
  apply fin_tup (by simp)
  · exact Sub.refl _
  · simp [-List.drop_one, -gD, threads_set, chans_set, l4StepF, setReg, reg, compute, h1, h2, h3, h4, h10, h11, h12, h13, k1, k2] <;> (first | rfl | exact ⟨rfl, rfl⟩ | exact ⟨rfl, rfl, rfl⟩ | skip)


end Go.Sep
