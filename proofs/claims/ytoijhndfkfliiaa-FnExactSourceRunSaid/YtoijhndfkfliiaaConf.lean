/- Contracts of functions. -/
import Derived.Test.YtoijhndfkfliiaaConb
namespace Go.Sep
open Go.Proofs
set_option linter.unusedSimpArgs false
set_option linter.unusedVariables false
set_option maxRecDepth 100000
open Nat renaming reduceAdd → qA, reduceMul → qB, reduceEqDiff → qC, reduceBEq → qD
open Int renaming reduceToNat → qE, reduceEq → qF, reduceLT → qG, reduceLE → qH
open List renaming getD_eq_getElem?_getD → gD
attribute [local go_sem] paramT preH e_seq e_reg e_block e_loop e_ops e_skip e_ret e_cond e_guard e_call e_ops1 plan next_ok next_some Arg.ev lookT putD putT if_false if_true app1 put del ints_length binA Option.map_some Option.bind_some look Int.toNat_natCast e_blk e_stop e_exit exitIt true_and and_true maybe_do maybe_tf maybe_ft branch_true branch_false Bool.false_eq_true bnd? cellsOf openL List.isEmpty_nil List.isEmpty_cons fresh List.map_nil List.map_cons List.cons_append List.nil_append splice List.take_zero List.drop_zero List.take_succ_cons List.getD_cons_zero List.length_cons List.length_nil List.drop_succ_cons List.drop_nil List.append_nil List.all_cons List.all_nil cellOk Bool.and_self Nat.zero_add e_dreg e_done e_take e_only1 e_onlyc e_takeg e_onlyg e_both dnext_some dnext_ok dmaybe_do rdTake pdTake addP rdOnly pdOnly isRead alive needs undep apart List.filter_nil List.filter_cons Option.isSome_some Option.isSome_none List.contains_nil List.contains_cons List.forall_mem_cons List.mem_cons List.not_mem_nil false_implies implies_true forall_const forall_eq_or_imp forall_eq or_false beq_self_eq_true Bool.or_false Bool.false_or Bool.true_or Bool.or_true Bool.not_true Bool.not_false xv xo xg xr xi xz List.set_set maybe_skip dmaybe_skip dmaybe_tf dmaybe_ft fillR fillROk fillA fillOk srcA eqC bytesOf ints_append List.replicate_zero decide_true decide_false ints_set nil_bind List.replicate_succ Int.toNat_zero Int.toNat_one eq_self Bool.and_true Bool.true_and Bool.and_false Bool.false_and List.set_cons_zero List.set_cons_succ List.getD_cons_succ rnm ixm renV renL openV openVs cond_true cond_false ints_drop ints_take drop_all
attribute [local simp] hand bwT bwC bwL ints_bw ints_take lookT Arg.ev handOk bwOk bwOks bwTs nf_sl nf_int nf_bool ints_bnd okV okL nb nbs nbr ints_nb look ints_length bnd bnds bndr renV renL ixm rnm apart needs rdOnly pdOnly fresh openV openVs resAV allP giveL giveV postH del isOwn partR ints_drop drop_all shp okB okBs ints_free
attribute [local go_sem] inss_length inss_append inss_drop inss_take inss_set insC bodies_length bodies_append bodies_drop bodies_take bodies_set intss_length intss_append intss_drop intss_take intss_set chans_length chans_append chans_drop chans_take chans_set chanC notes_length notes_append notes_drop notes_take notes_set noteC threads_length threads_append threads_drop threads_take threads_set threadC wents_length wents_append wents_drop wents_take wents_set wentC progs_length progs_append progs_drop progs_take progs_set progC sources_length sources_append sources_drop sources_take sources_set sourceC bys_length bys_append bys_drop bys_take bys_set
attribute [local simp] nilL_cons nilL_nil nilV_agg nilV_tup nilV_nilsl nilV_nil nilV_sl nilV_int nilV_bool nilV_str nilV_ns nilV_ptr nilRs_cons nilRs_nil free_nil free_cons inss_nil inss_bw inss_bnd inss_nb inss_length inss_take inss_drop inss_free bodies_nil bodies_bw bodies_bnd bodies_nb bodies_length bodies_take bodies_drop bodies_free intss_nil intss_bw intss_bnd intss_nb intss_length intss_take intss_drop intss_free chans_nil chans_bw chans_bnd chans_nb chans_length chans_take chans_drop chans_free notes_nil notes_bw notes_bnd notes_nb notes_length notes_take notes_drop notes_free threads_nil threads_bw threads_bnd threads_nb threads_length threads_take threads_drop threads_free wents_nil wents_bw wents_bnd wents_nb wents_length wents_take wents_drop wents_free progs_nil progs_bw progs_bnd progs_nb progs_length progs_take progs_drop progs_free sources_nil sources_bw sources_bnd sources_nb sources_length sources_take sources_drop sources_free bys_nil bys_bw bys_bnd bys_nb bys_length bys_take bys_drop bys_free curC insC chanC noteC threadC wentC progC sourceC

def compute (op a b : Int) : Int := if op = 2 then IntKind.i64.wrap (a + b) else if op = 3 then IntKind.i64.wrap (a - b) else numb (decide (a < b))

theorem compute_ok (op a b : Int) : CallOk Try.prog num 60 [.int .i64 op, .int .i64 a, .int .i64 b] [] (.int .i64 (compute op a b)) := by
  refine enter (m := m60) (f := 60) (fn := Try.f181) Try.func181 (by kernel_rfl) rfl c60 rfl (by simp [Try.f181]) (by simp [bnds, bnd, nf_sl, nf_int, nf_bool, nf_str, ints_bnd]) (fun _ _ h => by simp [preH, look] at h) ?_
  unfold m60
  by_cases h2 : op = 2
  · simp only [go_sem, qA, qB, qC, qD, qE, qF, qG, qH, h2]
    repeat (refine ⟨(by first | omega | (simp [-gD]; first | done | omega)), ?_⟩)
    refine ⟨_, Sub.refl _, ?_⟩; simp [FinS, nilL, nilV, oneOr, -List.drop_one]
    simp [compute, h2]
  by_cases h3 : op = 3
  · simp only [go_sem, qA, qB, qC, qD, qE, qF, qG, qH, h3]
    repeat (refine ⟨(by first | omega | (simp [-gD]; first | done | omega)), ?_⟩)
    refine ⟨_, Sub.refl _, ?_⟩; simp [FinS, nilL, nilV, oneOr, -List.drop_one]
    simp [compute, h3]
  simp only [go_sem, qA, qB, qC, qD, qE, qF, qG, qH, h2, h3]
  repeat (refine ⟨(by first | omega | (simp [-gD]; first | done | omega)), ?_⟩)
  refine calls_intro (call_ok0 [] (number_ok (decide (a < b))) ?_ ?_ ?_ ?_ ?_ ?_) ?_
  any_goals (first | omega | (simp [nilL, nilV]; done) | (simp [nilL, nilV, *]; done))
  try simp only [go_sem, qA, qB, qC, qD, qE, qF, qG, qH]
  repeat (refine ⟨(by first | omega | (simp [-gD]; first | done | omega)), ?_⟩)
  refine ⟨_, Sub.refl _, ?_⟩; simp [FinS, nilL, nilV, oneOr, -List.drop_one]
  simp [compute, h2, h3]

def reg (t : Thread) (r : Int) : Int := t.regs.getD r.toNat 0
def setReg (t : Thread) (r v : Int) : Thread := ⟨t.at_, t.regs.set r.toNat v, t.st⟩

/-- A place of a channel. -/
def chanStep (t : Thread) (c : Chan) (x : Ins) : Thread × Chan × Bool :=
  if x.op = 5 ∨ x.op = 7 then
    (if x.op = 7 ∧ ¬ (chanSend c (reg t x.a)).2 = 2 then setReg t x.r (numb (decide ((chanSend c (reg t x.a)).2 = 0))) else t, (chanSend c (reg t x.a)).1, !decide ((chanSend c (reg t x.a)).2 = 2))
  else if x.op = 6 ∨ x.op = 8 then
    (if (chanTake c).2.2 = 3 ∧ x.op = 8 then setReg (setReg (setReg t x.r (chanTake c).2.1) x.b (numb (decide ((chanTake c).2.2 = 0)))) x.b 2 else setReg (setReg t x.r (chanTake c).2.1) x.b (numb (decide ((chanTake c).2.2 = 0))), (chanTake c).1, !decide ((chanTake c).2.2 = 2))
  else (t, (chanClose c).1, !decide ((chanClose c).2 = 2))

theorem getD_set_self {α : Type} (l : List α) (i : Nat) (x d : α) (h : i < l.length) : (l.set i x).getD i d = x := by simp [List.getD_eq_getElem?_getD, h]

theorem set_getD_self {α : Type} (l : List α) (i : Nat) (d : α) (h : i < l.length) : l.set i (l.getD i d) = l := by
  rw [List.getD_eq_getElem?_getD, List.getElem?_eq_getElem h, Option.getD_some, List.set_getElem_self]

set_option maxHeartbeats 4000000 in
theorem chanStep_ok (ths : List Thread) (i : Nat) (chs : List Chan) (j : Nat) (x : Ins) (hi : i < ths.length) (hj : j < chs.length) (hr : (ths.getD i default).regs.length = 4) (hc : (chs.getD j default).list.length < 2 ^ 40)
    (r0 : 0 ≤ x.r) (r1 : x.r.toNat < 4) (a0 : 0 ≤ x.a) (a1 : x.a.toNat < 4) (b0 : 0 ≤ x.b) (b1 : x.b.toNat < 4) :
    CallOk Try.prog num 61 [.ptr 0 i 0, .ptr 1 j 0, .agg (insC x)] [(0, some (3, threads .own ths), some (3, threads .own (ths.set i (chanStep (ths.getD i default) (chs.getD j default) x).1))),
      (1, some (3, chans .own chs), some (3, chans .own (chs.set j (chanStep (ths.getD i default) (chs.getD j default) x).2.1)))] (.bool (chanStep (ths.getD i default) (chs.getD j default) x).2.2) := by
  refine enter (m := m61) (f := 61) (fn := Try.f182) Try.func182 (by kernel_rfl) rfl c61 rfl (by simp [Try.f182]) (by simp [bnds, bnd, nf_sl, nf_int, nf_bool, nf_str, ints_bnd]) (by first | (simp [preH, hb_nil, hb_cons, ints_bnd]; done) | exact hb_cons _ _ _ _ ((hb_nil _).2 trivial) (by decide) (by simp [ints_bnd, bndr, bnds, bnd])) ?_
  unfold m61
  have gt : ∀ r, ((threads .own ths).set i r).getD i [] = r := fun r => getD_set_self _ _ _ _ (by rw [threads_length]; exact hi)
  have gc : ∀ r, ((chans .own chs).set j r).getD j [] = r := fun r => getD_set_self _ _ _ _ (by rw [chans_length]; exact hj)
  have ra : x.a.toNat < (ths.getD i default).regs.length := by omega
  have rr : x.r.toNat < (ths.getD i default).regs.length := by omega
  have rb : x.b.toNat < (ths.getD i default).regs.length := by omega
  have rbs : ∀ v, x.b.toNat < ((ths.getD i default).regs.set x.r.toNat v).length := fun v => by rw [List.length_set]; exact rb
  have rbs2 : ∀ v u, x.b.toNat < (((ths.getD i default).regs.set x.r.toNat v).set x.b.toNat u).length := fun v u => by rw [List.length_set, List.length_set]; exact rb
  have rr : x.r.toNat < (ths.getD i default).regs.length := by omega
  have rb : x.b.toNat < (ths.getD i default).regs.length := by omega
  have rbs : ∀ v, x.b.toNat < ((ths.getD i default).regs.set x.r.toNat v).length := fun v => by rw [List.length_set]; exact rb
  have rbs2 : ∀ v u, x.b.toNat < (((ths.getD i default).regs.set x.r.toNat v).set x.b.toNat u).length := fun v u => by rw [List.length_set, List.length_set]; exact rb
  by_cases h5 : x.op = 5
  · simp only [go_sem, qA, qB, qC, qD, qE, qF, qG, qH, h5, threads_getD .own ths i hi, chans_getD .own chs j hj, gt, gc, ints_getD (ths.getD i default).regs x.a.toNat ra]
    repeat (refine ⟨(by first | omega | (simp [-gD]; first | done | omega)), ?_⟩)
    refine ⟨?_, ?_⟩
    · repeat (refine ⟨(by first | omega | (simp [-gD]; first | done | omega)), ?_⟩)
      refine dcall_intro (call_ok0 [] (implChanSend_ok (chs.getD j default) ((ths.getD i default).regs.getD x.a.toNat 0) (by omega)) ?_ ?_ ?_ ?_ ?_ ?_) ?_ ?_
      any_goals (first | omega | (simp [nilL, nilV]; done) | (simp [nilL, nilV, *]; done))
      try simp only [go_sem, qA, qB, qC, qD, qE, qF, qG, qH]
      repeat (refine ⟨(by first | omega | (simp [-gD]; first | done | omega)), ?_⟩)
      simp only [go_sem, qA, qB, qC, qD, qE, qF, qG, qH, h5, gt, gc]
      repeat (refine ⟨(by first | omega | (simp [-gD]; first | done | omega)), ?_⟩)
      apply fin_one
      · refine Sub.trans (Sub.foldAt 0 1 12 rfl (by simp [-gD] <;> omega) rfl (by decide) (by decide) rfl (by simp <;> omega)) ?_
        simp only [fS, qA, qC]
        refine Sub.trans (Sub.foldAt 1 1 13 rfl (by simp [-gD] <;> omega) rfl (by decide) (by decide) rfl (by simp <;> omega)) ?_
        simp only [fS, qA, qC]
        exact Sub.refl _
      · simp [-List.drop_one, -gD, threads_set, chans_set, chanStep, reg, setReg, h5] <;> (first | rfl | exact ⟨rfl, rfl⟩ | exact ⟨rfl, rfl, rfl⟩ | skip)
    · repeat (refine ⟨(by first | omega | (simp [-gD]; first | done | omega)), ?_⟩)
      refine dcall_intro (call_ok0 [] (implChanSend_ok (chs.getD j default) ((ths.getD i default).regs.getD x.a.toNat 0) (by omega)) ?_ ?_ ?_ ?_ ?_ ?_) ?_ ?_
      any_goals (first | omega | (simp [nilL, nilV]; done) | (simp [nilL, nilV, *]; done))
      try simp only [go_sem, qA, qB, qC, qD, qE, qF, qG, qH]
      repeat (refine ⟨(by first | omega | (simp [-gD]; first | done | omega)), ?_⟩)
      simp only [go_sem, qA, qB, qC, qD, qE, qF, qG, qH, h5, gt, gc]
      repeat (refine ⟨(by first | omega | (simp [-gD]; first | done | omega)), ?_⟩)
      apply fin_one
      · refine Sub.trans (Sub.foldAt 0 1 12 rfl (by simp [-gD] <;> omega) rfl (by decide) (by decide) rfl (by simp <;> omega)) ?_
        simp only [fS, qA, qC]
        refine Sub.trans (Sub.foldAt 1 1 14 rfl (by simp [-gD] <;> omega) rfl (by decide) (by decide) rfl (by simp <;> omega)) ?_
        simp only [fS, qA, qC]
        exact Sub.refl _
      · simp [-List.drop_one, -gD, threads_set, chans_set, chanStep, reg, setReg, h5] <;> (first | rfl | exact ⟨rfl, rfl⟩ | exact ⟨rfl, rfl, rfl⟩ | skip)
  by_cases h7 : x.op = 7
  · simp only [go_sem, qA, qB, qC, qD, qE, qF, qG, qH, h7, threads_getD .own ths i hi, chans_getD .own chs j hj, gt, gc, ints_getD (ths.getD i default).regs x.a.toNat ra]
    repeat (refine ⟨(by first | omega | (simp [-gD]; first | done | omega)), ?_⟩)
    refine ⟨?_, ?_⟩
    · repeat (refine ⟨(by first | omega | (simp [-gD]; first | done | omega)), ?_⟩)
      refine dcall_intro (call_ok0 [] (implChanSend_ok (chs.getD j default) ((ths.getD i default).regs.getD x.a.toNat 0) (by omega)) ?_ ?_ ?_ ?_ ?_ ?_) ?_ ?_
      any_goals (first | omega | (simp [nilL, nilV]; done) | (simp [nilL, nilV, *]; done))
      try simp only [go_sem, qA, qB, qC, qD, qE, qF, qG, qH]
      repeat (refine ⟨(by first | omega | (simp [-gD]; first | done | omega)), ?_⟩)
      simp only [go_sem, qA, qB, qC, qD, qE, qF, qG, qH, h7, gt, gc]
      repeat (refine ⟨(by first | omega | (simp [-gD]; first | done | omega)), ?_⟩)
      by_cases hk : (chanSend (chs.getD j default) ((ths.getD i default).regs.getD x.a.toNat 0)).2 = 2
      · simp only [go_sem, qA, qB, qC, qD, qE, qF, qG, qH, hk, gt, gc, h7]
        repeat (refine ⟨(by first | omega | (simp [-gD]; first | done | omega)), ?_⟩)
        apply fin_one
        · refine Sub.trans (Sub.foldAt 0 1 12 rfl (by simp [-gD] <;> omega) rfl (by decide) (by decide) rfl (by simp <;> omega)) ?_
          simp only [fS, qA, qC]
          refine Sub.trans (Sub.foldAt 1 1 13 rfl (by simp [-gD] <;> omega) rfl (by decide) (by decide) rfl (by simp <;> omega)) ?_
          simp only [fS, qA, qC]
          exact Sub.refl _
        · simp [-List.drop_one, -gD, threads_set, chans_set, chanStep, reg, setReg, h7, hk] <;> (first | rfl | exact ⟨rfl, rfl⟩ | exact ⟨rfl, rfl, rfl⟩ | skip)
      · simp only [go_sem, qA, qB, qC, qD, qE, qF, qG, qH, hk, gt, gc, h7]
        repeat (refine ⟨(by first | omega | (simp [-gD]; first | done | omega)), ?_⟩)
        refine dcall_intro (call_ok0 [] (number_ok (decide ((chanSend (chs.getD j default) ((ths.getD i default).regs.getD x.a.toNat 0)).2 = 0))) ?_ ?_ ?_ ?_ ?_ ?_) ?_ ?_
        any_goals (first | omega | (simp [nilL, nilV]; done) | (simp [nilL, nilV, *]; done))
        try simp only [go_sem, qA, qB, qC, qD, qE, qF, qG, qH]
        repeat (refine ⟨(by first | omega | (simp [-gD]; first | done | omega)), ?_⟩)
        simp only [go_sem, qA, qB, qC, qD, qE, qF, qG, qH, gt, gc, h7, ints_getD (ths.getD i default).regs x.r.toNat rr, hk]
        repeat (refine ⟨(by first | omega | (simp [-gD]; first | done | omega)), ?_⟩)
        apply fin_one
        · refine Sub.trans (Sub.foldAt 0 1 12 rfl (by simp [-gD] <;> omega) rfl (by decide) (by decide) rfl (by simp <;> omega)) ?_
          simp only [fS, qA, qC]
          refine Sub.trans (Sub.foldAt 1 1 13 rfl (by simp [-gD] <;> omega) rfl (by decide) (by decide) rfl (by simp <;> omega)) ?_
          simp only [fS, qA, qC]
          exact Sub.refl _
        · simp [-List.drop_one, -gD, threads_set, chans_set, chanStep, reg, setReg, h7, hk] <;> (first | rfl | exact ⟨rfl, rfl⟩ | exact ⟨rfl, rfl, rfl⟩ | skip)
    · repeat (refine ⟨(by first | omega | (simp [-gD]; first | done | omega)), ?_⟩)
      refine dcall_intro (call_ok0 [] (implChanSend_ok (chs.getD j default) ((ths.getD i default).regs.getD x.a.toNat 0) (by omega)) ?_ ?_ ?_ ?_ ?_ ?_) ?_ ?_
      any_goals (first | omega | (simp [nilL, nilV]; done) | (simp [nilL, nilV, *]; done))
      try simp only [go_sem, qA, qB, qC, qD, qE, qF, qG, qH]
      repeat (refine ⟨(by first | omega | (simp [-gD]; first | done | omega)), ?_⟩)
      simp only [go_sem, qA, qB, qC, qD, qE, qF, qG, qH, h7, gt, gc]
      repeat (refine ⟨(by first | omega | (simp [-gD]; first | done | omega)), ?_⟩)
      by_cases hk : (chanSend (chs.getD j default) ((ths.getD i default).regs.getD x.a.toNat 0)).2 = 2
      · simp only [go_sem, qA, qB, qC, qD, qE, qF, qG, qH, hk, gt, gc, h7]
        repeat (refine ⟨(by first | omega | (simp [-gD]; first | done | omega)), ?_⟩)
        apply fin_one
        · refine Sub.trans (Sub.foldAt 0 1 12 rfl (by simp [-gD] <;> omega) rfl (by decide) (by decide) rfl (by simp <;> omega)) ?_
          simp only [fS, qA, qC]
          refine Sub.trans (Sub.foldAt 1 1 14 rfl (by simp [-gD] <;> omega) rfl (by decide) (by decide) rfl (by simp <;> omega)) ?_
          simp only [fS, qA, qC]
          exact Sub.refl _
        · simp [-List.drop_one, -gD, threads_set, chans_set, chanStep, reg, setReg, h7, hk] <;> (first | rfl | exact ⟨rfl, rfl⟩ | exact ⟨rfl, rfl, rfl⟩ | skip)
      · simp only [go_sem, qA, qB, qC, qD, qE, qF, qG, qH, hk, gt, gc, h7]
        repeat (refine ⟨(by first | omega | (simp [-gD]; first | done | omega)), ?_⟩)
        refine dcall_intro (call_ok0 [] (number_ok (decide ((chanSend (chs.getD j default) ((ths.getD i default).regs.getD x.a.toNat 0)).2 = 0))) ?_ ?_ ?_ ?_ ?_ ?_) ?_ ?_
        any_goals (first | omega | (simp [nilL, nilV]; done) | (simp [nilL, nilV, *]; done))
        try simp only [go_sem, qA, qB, qC, qD, qE, qF, qG, qH]
        repeat (refine ⟨(by first | omega | (simp [-gD]; first | done | omega)), ?_⟩)
        simp only [go_sem, qA, qB, qC, qD, qE, qF, qG, qH, gt, gc, h7, ints_getD (ths.getD i default).regs x.r.toNat rr, hk]
        repeat (refine ⟨(by first | omega | (simp [-gD]; first | done | omega)), ?_⟩)
        apply fin_one
        · refine Sub.trans (Sub.foldAt 0 1 12 rfl (by simp [-gD] <;> omega) rfl (by decide) (by decide) rfl (by simp <;> omega)) ?_
          simp only [fS, qA, qC]
          refine Sub.trans (Sub.foldAt 1 1 14 rfl (by simp [-gD] <;> omega) rfl (by decide) (by decide) rfl (by simp <;> omega)) ?_
          simp only [fS, qA, qC]
          exact Sub.refl _
        · simp [-List.drop_one, -gD, threads_set, chans_set, chanStep, reg, setReg, h7, hk] <;> (first | rfl | exact ⟨rfl, rfl⟩ | exact ⟨rfl, rfl, rfl⟩ | skip)
  by_cases h6 : x.op = 6
  · simp only [go_sem, qA, qB, qC, qD, qE, qF, qG, qH, h6, threads_getD .own ths i hi, chans_getD .own chs j hj, gt, gc]
    repeat (refine ⟨(by first | omega | (simp [-gD]; first | done | omega)), ?_⟩)
    refine calls_intro (call_ok0 [] (implChanTake_ok (chs.getD j default) (by omega)) ?_ ?_ ?_ ?_ ?_ ?_) ?_
    any_goals (first | omega | (simp [nilL, nilV]; done) | (simp [nilL, nilV, *]; done))
    try simp only [go_sem, qA, qB, qC, qD, qE, qF, qG, qH]
    repeat (refine ⟨(by first | omega | (simp [-gD]; first | done | omega)), ?_⟩)
    simp only [go_sem, qA, qB, qC, qD, qE, qF, qG, qH, h6, threads_getD .own ths i hi, chans_getD .own chs j hj, gt, gc]
    repeat (refine ⟨(by first | omega | (simp [-gD]; first | done | omega)), ?_⟩)
    refine dcall_intro (call_ok0 [] (number_ok (decide ((chanTake (chs.getD j default)).2.2 = 0))) ?_ ?_ ?_ ?_ ?_ ?_) ?_ ?_
    any_goals (first | omega | (simp [nilL, nilV]; done) | (simp [nilL, nilV, *]; done))
    try simp only [go_sem, qA, qB, qC, qD, qE, qF, qG, qH]
    repeat (refine ⟨(by first | omega | (simp [-gD]; first | done | omega)), ?_⟩)
    simp only [go_sem, qA, qB, qC, qD, qE, qF, qG, qH, gt, gc, h6, ints_getD (ths.getD i default).regs x.r.toNat rr, ints_getD _ x.b.toNat (rbs _)]
    repeat (refine ⟨(by first | omega | (simp [-gD]; first | done | omega)), ?_⟩)
    by_cases hk : (chanTake (chs.getD j default)).2.2 = 3
    · simp only [go_sem, qA, qB, qC, qD, qE, qF, qG, qH, hk, gt, gc, h6]
      repeat (refine ⟨(by first | omega | (simp [-gD]; first | done | omega)), ?_⟩)
      apply fin_one
      · refine Sub.trans (Sub.foldAt 0 1 14 rfl (by simp [-gD] <;> omega) rfl (by decide) (by decide) rfl (by simp <;> omega)) ?_
        simp only [fS, qA, qC]
        refine Sub.trans (Sub.foldAt 1 1 12 rfl (by simp [-gD] <;> omega) rfl (by decide) (by decide) rfl (by simp <;> omega)) ?_
        simp only [fS, qA, qC]
        exact Sub.refl _
      · simp [-List.drop_one, -gD, threads_set, chans_set, chanStep, reg, setReg, h6, hk] <;> (first | rfl | exact ⟨rfl, rfl⟩ | exact ⟨rfl, rfl, rfl⟩ | skip)
    · simp only [go_sem, qA, qB, qC, qD, qE, qF, qG, qH, hk, gt, gc, h6]
      repeat (refine ⟨(by first | omega | (simp [-gD]; first | done | omega)), ?_⟩)
      apply fin_one
      · refine Sub.trans (Sub.foldAt 0 1 14 rfl (by simp [-gD] <;> omega) rfl (by decide) (by decide) rfl (by simp <;> omega)) ?_
        simp only [fS, qA, qC]
        refine Sub.trans (Sub.foldAt 1 1 12 rfl (by simp [-gD] <;> omega) rfl (by decide) (by decide) rfl (by simp <;> omega)) ?_
        simp only [fS, qA, qC]
        exact Sub.refl _
      · simp [-List.drop_one, -gD, threads_set, chans_set, chanStep, reg, setReg, h6, hk] <;> (first | rfl | exact ⟨rfl, rfl⟩ | exact ⟨rfl, rfl, rfl⟩ | skip)
  by_cases h8 : x.op = 8
  · simp only [go_sem, qA, qB, qC, qD, qE, qF, qG, qH, h8, threads_getD .own ths i hi, chans_getD .own chs j hj, gt, gc]
    repeat (refine ⟨(by first | omega | (simp [-gD]; first | done | omega)), ?_⟩)
    refine calls_intro (call_ok0 [] (implChanTake_ok (chs.getD j default) (by omega)) ?_ ?_ ?_ ?_ ?_ ?_) ?_
    any_goals (first | omega | (simp [nilL, nilV]; done) | (simp [nilL, nilV, *]; done))
    try simp only [go_sem, qA, qB, qC, qD, qE, qF, qG, qH]
    repeat (refine ⟨(by first | omega | (simp [-gD]; first | done | omega)), ?_⟩)
    simp only [go_sem, qA, qB, qC, qD, qE, qF, qG, qH, h8, threads_getD .own ths i hi, chans_getD .own chs j hj, gt, gc]
    repeat (refine ⟨(by first | omega | (simp [-gD]; first | done | omega)), ?_⟩)
    refine dcall_intro (call_ok0 [] (number_ok (decide ((chanTake (chs.getD j default)).2.2 = 0))) ?_ ?_ ?_ ?_ ?_ ?_) ?_ ?_
    any_goals (first | omega | (simp [nilL, nilV]; done) | (simp [nilL, nilV, *]; done))
    try simp only [go_sem, qA, qB, qC, qD, qE, qF, qG, qH]
    repeat (refine ⟨(by first | omega | (simp [-gD]; first | done | omega)), ?_⟩)
    simp only [go_sem, qA, qB, qC, qD, qE, qF, qG, qH, gt, gc, h8, ints_getD (ths.getD i default).regs x.r.toNat rr, ints_getD _ x.b.toNat (rbs _)]
    repeat (refine ⟨(by first | omega | (simp [-gD]; first | done | omega)), ?_⟩)
    by_cases hk : (chanTake (chs.getD j default)).2.2 = 3
    · simp only [go_sem, qA, qB, qC, qD, qE, qF, qG, qH, hk, gt, gc, h8, ints_getD _ x.b.toNat (rbs2 _ _)]
      repeat (refine ⟨(by first | omega | (simp [-gD]; first | done | omega)), ?_⟩)
      apply fin_one
      · refine Sub.trans (Sub.foldAt 0 1 14 rfl (by simp [-gD] <;> omega) rfl (by decide) (by decide) rfl (by simp <;> omega)) ?_
        simp only [fS, qA, qC]
        refine Sub.trans (Sub.foldAt 1 1 12 rfl (by simp [-gD] <;> omega) rfl (by decide) (by decide) rfl (by simp <;> omega)) ?_
        simp only [fS, qA, qC]
        exact Sub.refl _
      · simp [-List.drop_one, -gD, threads_set, chans_set, chanStep, reg, setReg, h8, hk] <;> (first | rfl | exact ⟨rfl, rfl⟩ | exact ⟨rfl, rfl, rfl⟩ | skip)
    · simp only [go_sem, qA, qB, qC, qD, qE, qF, qG, qH, hk, gt, gc, h8]
      repeat (refine ⟨(by first | omega | (simp [-gD]; first | done | omega)), ?_⟩)
      apply fin_one
      · refine Sub.trans (Sub.foldAt 0 1 14 rfl (by simp [-gD] <;> omega) rfl (by decide) (by decide) rfl (by simp <;> omega)) ?_
        simp only [fS, qA, qC]
        refine Sub.trans (Sub.foldAt 1 1 12 rfl (by simp [-gD] <;> omega) rfl (by decide) (by decide) rfl (by simp <;> omega)) ?_
        simp only [fS, qA, qC]
        exact Sub.refl _
      · simp [-List.drop_one, -gD, threads_set, chans_set, chanStep, reg, setReg, h8, hk] <;> (first | rfl | exact ⟨rfl, rfl⟩ | exact ⟨rfl, rfl, rfl⟩ | skip)
  simp only [go_sem, qA, qB, qC, qD, qE, qF, qG, qH, h5, h6, h7, h8, chans_getD .own chs j hj, gc]
  repeat (refine ⟨(by first | omega | (simp [-gD]; first | done | omega)), ?_⟩)
  refine calls_intro (call_ok0 [] (implChanClose_ok (chs.getD j default) (by omega)) ?_ ?_ ?_ ?_ ?_ ?_) ?_
  any_goals (first | omega | (simp [nilL, nilV]; done) | (simp [nilL, nilV, *]; done))
  try simp only [go_sem, qA, qB, qC, qD, qE, qF, qG, qH]
  repeat (refine ⟨(by first | omega | (simp [-gD]; first | done | omega)), ?_⟩)
  simp only [go_sem, qA, qB, qC, qD, qE, qF, qG, qH, h5, h6, h7, h8, gc]
  repeat (refine ⟨(by first | omega | (simp [-gD]; first | done | omega)), ?_⟩)
  apply fin_one
  · refine Sub.trans (Sub.foldAt 1 1 12 rfl (by simp [-gD] <;> omega) rfl (by decide) (by decide) rfl (by simp <;> omega)) ?_
    simp only [fS, qA, qC]
    exact Sub.refl _
  · simp [-List.drop_one, -gD, threads_set, chans_set, chanStep, h5, h6, h7, h8] <;> (first | rfl | exact ⟨rfl, rfl⟩ | exact ⟨rfl, rfl, rfl⟩ | skip)
    rw [set_getD_self ths i default hi]


end Go.Sep
