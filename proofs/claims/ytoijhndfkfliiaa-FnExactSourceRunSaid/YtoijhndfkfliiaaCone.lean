/- Contracts of functions. -/
import Derived.Test.YtoijhndfkfliiaaCond
namespace Go.Sep
open Go.Proofs
set_option linter.unusedSimpArgs false
set_option linter.unusedVariables false
set_option maxRecDepth 100000
open Nat renaming reduceAdd → qA, reduceMul → qB, reduceEqDiff → qC, reduceBEq → qD
open Int renaming reduceToNat → qE, reduceEq → qF, reduceLT → qG, reduceLE → qH
open List renaming getD_eq_getElem?_getD → gD
attribute [local go_sem] paramT preH e_seq e_reg e_block e_loop e_ops e_skip e_ret e_cond e_guard e_call e_ops1 plan next_ok next_some Arg.ev lookT putD putT if_false if_true app1 put del ints_length binA Option.map_some Option.bind_some look Int.toNat_natCast e_blk e_stop e_exit exitIt true_and and_true maybe_do maybe_tf maybe_ft branch_true branch_false Bool.false_eq_true bnd? cellsOf openL List.isEmpty_nil List.isEmpty_cons fresh List.map_nil List.map_cons List.cons_append List.nil_append splice List.take_zero List.drop_zero List.take_succ_cons List.getD_cons_zero List.length_cons List.length_nil List.drop_succ_cons List.drop_nil List.append_nil List.all_cons List.all_nil cellOk Bool.and_self Nat.zero_add e_dreg e_done e_take e_only1 e_onlyc e_takeg e_onlyg e_both dnext_some dnext_ok dmaybe_do rdTake pdTake addP rdOnly pdOnly isRead alive needs undep apart List.filter_nil List.filter_cons Option.isSome_some Option.isSome_none List.contains_nil List.contains_cons List.forall_mem_cons List.mem_cons List.not_mem_nil false_implies implies_true forall_const forall_eq_or_imp forall_eq or_false beq_self_eq_true Bool.or_false Bool.false_or Bool.true_or Bool.or_true Bool.not_true Bool.not_false xv xo xg xr xi xz List.set_set maybe_skip dmaybe_skip dmaybe_tf dmaybe_ft fillR fillROk fillA fillOk srcA eqC bytesOf ints_append List.replicate_zero decide_true decide_false ints_set nil_bind List.replicate_succ Int.toNat_zero Int.toNat_one eq_self Bool.and_true Bool.true_and Bool.and_false Bool.false_and List.set_cons_zero List.set_cons_succ List.getD_cons_succ rnm ixm renV renL openV openVs cond_true cond_false ints_drop ints_take drop_all
attribute [local simp] hand bwT bwC bwL ints_bw ints_take lookT Arg.ev handOk bwOk bwOks bwTs nf_sl nf_int nf_bool ints_bnd okV okL nb nbs nbr ints_nb look ints_length bnd bnds bndr renV renL ixm rnm apart needs rdOnly pdOnly fresh openV openVs resAV allP giveL giveV postH del isOwn partR ints_drop drop_all shp okB okBs ints_free
attribute [local go_sem] inss_length inss_append inss_drop inss_take inss_set insC bodies_length bodies_append bodies_drop bodies_take bodies_set intss_length intss_append intss_drop intss_take intss_set chans_length chans_append chans_drop chans_take chans_set chanC notes_length notes_append notes_drop notes_take notes_set noteC threads_length threads_append threads_drop threads_take threads_set threadC wents_length wents_append wents_drop wents_take wents_set wentC progs_length progs_append progs_drop progs_take progs_set progC sources_length sources_append sources_drop sources_take sources_set sourceC bys_length bys_append bys_drop bys_take bys_set
attribute [local simp] nilL_cons nilL_nil nilV_agg nilV_tup nilV_nilsl nilV_nil nilV_sl nilV_int nilV_bool nilV_str nilV_ns nilV_ptr nilRs_cons nilRs_nil free_nil free_cons inss_nil inss_bw inss_bnd inss_nb inss_length inss_take inss_drop inss_free bodies_nil bodies_bw bodies_bnd bodies_nb bodies_length bodies_take bodies_drop bodies_free intss_nil intss_bw intss_bnd intss_nb intss_length intss_take intss_drop intss_free chans_nil chans_bw chans_bnd chans_nb chans_length chans_take chans_drop chans_free notes_nil notes_bw notes_bnd notes_nb notes_length notes_take notes_drop notes_free threads_nil threads_bw threads_bnd threads_nb threads_length threads_take threads_drop threads_free wents_nil wents_bw wents_bnd wents_nb wents_length wents_take wents_drop wents_free progs_nil progs_bw progs_bnd progs_nb progs_length progs_take progs_drop progs_free sources_nil sources_bw sources_bnd sources_nb sources_length sources_take sources_drop sources_free bys_nil bys_bw bys_bnd bys_nb bys_length bys_take bys_drop bys_free curC insC chanC noteC threadC wentC progC sourceC

def thread0 : Thread := ⟨0, [0, 0, 0, 0], 0⟩
def sourceNew (p : Prog) : Source × Bool :=
  if progOk p then (⟨List.replicate p.bods.length thread0, p.caps.map fun c => ⟨c, [], false⟩, []⟩, true) else (⟨[], [], []⟩, false)

theorem rep_succ {α : Type} (i : Nat) (x : α) : List.replicate (i + 1) x = List.replicate i x ++ [x] := List.replicate_succ'

theorem implSourceNew_ok (p : Prog) (h1 : p.caps.length < 2 ^ 40) (h2 : p.bods.length < 2 ^ 40) (h3 : ∀ b ∈ p.bods, b.length < 2 ^ 47) : CallOk Try.prog num 24 [.agg (progC .bw p)] [] (.tup [.agg (sourceC .own (sourceNew p).1), .bool (sourceNew p).2]) := by
  refine enter (m := m24) (f := 24) (fn := Try.f30) Try.func30 (by kernel_rfl) rfl c24 rfl (by simp [Try.f30]) (by simp [bnds, bnd, nf_sl, nf_int, nf_bool, nf_str, ints_bnd]) (fun _ _ h => by simp [preH, look] at h) ?_
  unfold m24
  simp only [go_sem, qA, qB, qC, qD, qE, qF, qG, qH]
  repeat (refine ⟨(by first | omega | (simp [-gD]; first | done | omega)), ?_⟩)
  refine calls_intro (call_ok0 [] (implProgOk_ok p (by omega) (by omega) h3) ?_ ?_ ?_ ?_ ?_ ?_) ?_
  any_goals (first | omega | (simp [nilL, nilV]; done) | (simp [nilL, nilV, *]; done))
  try simp only [go_sem, qA, qB, qC, qD, qE, qF, qG, qH]
  repeat (refine ⟨(by first | omega | (simp [-gD]; first | done | omega)), ?_⟩)
  cases hok : progOk p
  · simp only [go_sem, qA, qB, qC, qD, qE, qF, qG, qH, hok]
    repeat (refine ⟨(by first | omega | (simp [-gD]; first | done | omega)), ?_⟩)
    refine ⟨_, Sub.refl _, FinS_tup (by simp) ?_⟩; simp [-List.drop_one]
    simp [sourceNew, hok, threads, chans, notes]
  · simp only [go_sem, qA, qB, qC, qD, qE, qF, qG, qH, hok]
    repeat (refine ⟨(by first | omega | (simp [-gD]; first | done | omega)), ?_⟩)
    refine loop_intro (ι := Nat) (fun i => .mk [(1, .ptr 10 0 0), (2, .ptr 11 0 0), (4, .ptr 12 0 0), (14, .int .i64 p.bods.length), (15, .int .i64 i)] [(10, 2, [progC .bw p]), (11, 3, [[.nil, .nil, .nil]]), (12, 3, [[.sl .own 3 (threads .own (List.replicate i thread0)), .nil, .nil]])] 13) (fun i => i ≤ p.bods.length) (fun i => p.bods.length - i) 0 (by simp) ?_ ?_
    · refine Sub.shape [] id (by omega) ?_ ?_ ?_ ?_ <;> simp [ints_rep]
    · rintro i hi
      simp only [go_sem, qA, qB, qC, qD, qE, qF, qG, qH]
      refine branch_intro (fun hc => ?_) (fun hc => ?_)
      · simp only [decide_eq_true_eq] at hc
        have hl' : i < p.bods.length := by omega
        simp only [go_sem, qA, qB, qC, qD, qE, qF, qG, qH, wrap_succ (i := i) (by omega), List.length_replicate]
        repeat (refine ⟨(by first | omega | (simp [-gD]; first | done | omega)), ?_⟩)
        have he : threads .own (List.replicate i thread0) ++ [[AV.int .i64 0, .sl .own 1 [[.int .i64 0], [.int .i64 0], [.int .i64 0], [.int .i64 0]], .int .i64 0]] = threads .own (List.replicate (i + 1) thread0) := by
          rw [rep_succ, ← threads_append]
          rfl
        refine back_intro (i + 1) ?_ hl' (by omega)
        refine Sub.trans (Sub.foldLast 16 1 14 rfl (by simp [-gD] <;> omega) rfl (by decide) (by decide) rfl) ?_
        simp only [fS, qA, qC, he]
        refine Sub.trans (Sub.fold1 12 0 16 rfl (by simp [-gD] <;> omega) rfl (by decide) (by decide) rfl) ?_
        simp only [fS, qA, qC]
        refine Sub.shape [] id (by omega) ?_ ?_ ?_ ?_ <;> simp [ints_rep]
      · simp only [decide_eq_false_iff_not] at hc
        have hie : i = p.bods.length := by omega
        subst hie
        simp only [go_sem, qA, qB, qC, qD, qE, qF, qG, qH]
        repeat (refine ⟨(by first | omega | (simp [-gD]; first | done | omega)), ?_⟩)
        refine loop_intro (ι := Nat) (fun i => .mk [(2, .ptr 11 0 0), (4, .ptr 12 0 0), (26, .sl .bw 1 (ints p.caps)), (27, .int .i64 p.caps.length), (28, .int .i64 i)] [(11, 3, [[.nil, .nil, .nil]]), (12, 3, [[.sl .own 3 (threads .own (List.replicate p.bods.length thread0)), .sl .own 3 (chans .own ((p.caps.take i).map fun c => ⟨c, [], false⟩)), .nil]])] 13) (fun i => i ≤ p.caps.length) (fun i => p.caps.length - i) 0 (by simp) ?_ ?_
        · refine Sub.shape [] id (by omega) ?_ ?_ ?_ ?_ <;> simp [ints_rep]
        · rintro i hi
          simp only [go_sem, qA, qB, qC, qD, qE, qF, qG, qH]
          refine branch_intro (fun hc => ?_) (fun hc => ?_)
          · simp only [decide_eq_true_eq] at hc
            have hl' : i < p.caps.length := by omega
            have hlt : (p.caps.take i).length = i := by simp; omega
            simp only [go_sem, qA, qB, qC, qD, qE, qF, qG, qH, wrap_succ (i := i) (by omega), ints_getD p.caps i hl', List.length_map, hlt]
            repeat (refine ⟨(by first | omega | (simp [-gD]; first | done | omega)), ?_⟩)
            have he : chans .own ((p.caps.take i).map fun c => ⟨c, [], false⟩) ++ [[AV.int .i64 (p.caps.getD i 0), .sl .own 1 [], .bool false]] = chans .own ((p.caps.take (i + 1)).map fun c => ⟨c, [], false⟩) := by
              rw [List.take_succ_eq_append_getElem hl', List.map_append, ← chans_append]
              simp [chans, List.getD_eq_getElem?_getD, hl', ints_nil]
            refine back_intro (i + 1) ?_ hl' (by omega)
            refine Sub.trans (Sub.nilLast 15 (r' := [.int .i64 (p.caps.getD i 0), .sl .own 1 [], .bool false]) rfl (by simp) (by simp [nf_app, bndr, bnds, bnd])) ?_
            simp only [put, Nat.reduceEqDiff, if_true, if_false]
            rw [he]
            refine Sub.trans (Sub.fold1 12 1 15 rfl (by simp [-gD] <;> omega) rfl (by decide) (by decide) rfl) ?_
            simp only [fS, qA, qC, List.length_map, List.length_take, Nat.min_eq_left (show i + 1 ≤ p.caps.length from hl')]
            refine Sub.shape [] id (by omega) ?_ ?_ ?_ ?_ <;> simp [ints_rep]
          · simp only [decide_eq_false_iff_not] at hc
            have hie : p.caps.take i = p.caps := List.take_of_length_le (by omega)
            simp only [go_sem, qA, qB, qC, qD, qE, qF, qG, qH, hie]
            repeat (refine ⟨(by first | omega | (simp [-gD]; first | done | omega)), ?_⟩)
            refine ⟨_, Sub.refl _, FinS_tup (by simp) ?_⟩; simp [-List.drop_one]
            simp [sourceNew, hok]

theorem specSourceNew_ok (p : Prog) (h1 : p.caps.length < 2 ^ 40) (h2 : p.bods.length < 2 ^ 40) (h3 : ∀ b ∈ p.bods, b.length < 2 ^ 47) : CallOk Try.prog num 45 [.agg (progC .bw p)] [] (.tup [.agg (sourceC .own (sourceNew p).1), .bool (sourceNew p).2]) := by
  refine enter (m := m45) (f := 45) (fn := Try.f70) Try.func70 (by kernel_rfl) rfl c45 rfl (by simp [Try.f70]) (by simp [bnds, bnd, nf_sl, nf_int, nf_bool, nf_str, ints_bnd]) (fun _ _ h => by simp [preH, look] at h) ?_
  unfold m45
  simp only [go_sem, qA, qB, qC, qD, qE, qF, qG, qH]
  repeat (refine ⟨(by first | omega | (simp [-gD]; first | done | omega)), ?_⟩)
  refine calls_intro (call_ok0 [] (specProgOk_ok p (by omega) (by omega) h3) ?_ ?_ ?_ ?_ ?_ ?_) ?_
  any_goals (first | omega | (simp [nilL, nilV]; done) | (simp [nilL, nilV, *]; done))
  try simp only [go_sem, qA, qB, qC, qD, qE, qF, qG, qH]
  repeat (refine ⟨(by first | omega | (simp [-gD]; first | done | omega)), ?_⟩)
  cases hok : progOk p
  · simp only [go_sem, qA, qB, qC, qD, qE, qF, qG, qH, hok]
    repeat (refine ⟨(by first | omega | (simp [-gD]; first | done | omega)), ?_⟩)
    refine ⟨_, Sub.refl _, FinS_tup (by simp) ?_⟩; simp [-List.drop_one]
    simp [sourceNew, hok, threads, chans, notes]
  · simp only [go_sem, qA, qB, qC, qD, qE, qF, qG, qH, hok]
    repeat (refine ⟨(by first | omega | (simp [-gD]; first | done | omega)), ?_⟩)
    refine loop_intro (ι := Nat) (fun i => .mk [(1, .ptr 10 0 0), (2, .ptr 11 0 0), (4, .ptr 12 0 0), (5, .int .i64 i)] [(10, 2, [progC .bw p]), (11, 3, [[.nil, .nil, .nil]]), (12, 3, [[.sl .own 3 (threads .own (List.replicate i thread0)), .nil, .nil]])] 13) (fun i => i ≤ p.bods.length) (fun i => p.bods.length - i) 0 (by simp) ?_ ?_
    · refine Sub.shape [] id (by omega) ?_ ?_ ?_ ?_ <;> simp [ints_rep]
    · rintro i hi
      simp only [go_sem, qA, qB, qC, qD, qE, qF, qG, qH]
      repeat (refine ⟨(by first | omega | (simp [-gD]; first | done | omega)), ?_⟩)
      refine branch_intro (fun hc => ?_) (fun hc => ?_)
      · simp only [decide_eq_true_eq] at hc
        have hl' : i < p.bods.length := by omega
        simp only [go_sem, qA, qB, qC, qD, qE, qF, qG, qH, wrap_succ (i := i) (by omega), List.length_replicate]
        repeat (refine ⟨(by first | omega | (simp [-gD]; first | done | omega)), ?_⟩)
        have he : threads .own (List.replicate i thread0) ++ [[AV.int .i64 0, .sl .own 1 [[.int .i64 0], [.int .i64 0], [.int .i64 0], [.int .i64 0]], .int .i64 0]] = threads .own (List.replicate (i + 1) thread0) := by
          rw [rep_succ, ← threads_append]
          rfl
        refine back_intro (i + 1) ?_ hl' (by omega)
        refine Sub.trans (Sub.foldLast 16 1 14 rfl (by simp [-gD] <;> omega) rfl (by decide) (by decide) rfl) ?_
        simp only [fS, qA, qC, he]
        refine Sub.trans (Sub.fold1 12 0 16 rfl (by simp [-gD] <;> omega) rfl (by decide) (by decide) rfl) ?_
        simp only [fS, qA, qC]
        refine Sub.shape [] id (by omega) ?_ ?_ ?_ ?_ <;> simp [ints_rep]
      · simp only [decide_eq_false_iff_not] at hc
        have hie : i = p.bods.length := by omega
        subst hie
        simp only [go_sem, qA, qB, qC, qD, qE, qF, qG, qH]
        repeat (refine ⟨(by first | omega | (simp [-gD]; first | done | omega)), ?_⟩)
        refine loop_intro (ι := Nat) (fun i => .mk [(1, .ptr 10 0 0), (2, .ptr 11 0 0), (4, .ptr 12 0 0), (6, .int .i64 i)] [(10, 2, [progC .bw p]), (11, 3, [[.nil, .nil, .nil]]), (12, 3, [[.sl .own 3 (threads .own (List.replicate p.bods.length thread0)), .sl .own 3 (chans .own ((p.caps.take i).map fun c => ⟨c, [], false⟩)), .nil]])] 13) (fun i => i ≤ p.caps.length) (fun i => p.caps.length - i) 0 (by simp) ?_ ?_
        · refine Sub.shape [] id (by omega) ?_ ?_ ?_ ?_ <;> simp [ints_rep]
        · rintro i hi
          simp only [go_sem, qA, qB, qC, qD, qE, qF, qG, qH]
          repeat (refine ⟨(by first | omega | (simp [-gD]; first | done | omega)), ?_⟩)
          refine branch_intro (fun hc => ?_) (fun hc => ?_)
          · simp only [decide_eq_true_eq] at hc
            have hl' : i < p.caps.length := by omega
            have hlt : (p.caps.take i).length = i := by simp; omega
            simp only [go_sem, qA, qB, qC, qD, qE, qF, qG, qH, wrap_succ (i := i) (by omega), ints_getD p.caps i hl', List.length_map, hlt]
            repeat (refine ⟨(by first | omega | (simp [-gD]; first | done | omega)), ?_⟩)
            have he : chans .own ((p.caps.take i).map fun c => ⟨c, [], false⟩) ++ [[AV.int .i64 (p.caps.getD i 0), .sl .own 1 [], .bool false]] = chans .own ((p.caps.take (i + 1)).map fun c => ⟨c, [], false⟩) := by
              rw [List.take_succ_eq_append_getElem hl', List.map_append, ← chans_append]
              simp [chans, List.getD_eq_getElem?_getD, hl', ints_nil]
            refine back_intro (i + 1) ?_ hl' (by omega)
            refine Sub.trans (Sub.nilLast 15 (r' := [.int .i64 (p.caps.getD i 0), .sl .own 1 [], .bool false]) rfl (by simp) (by simp [nf_app, bndr, bnds, bnd])) ?_
            simp only [put, Nat.reduceEqDiff, if_true, if_false]
            rw [he]
            refine Sub.trans (Sub.fold1 12 1 15 rfl (by simp [-gD] <;> omega) rfl (by decide) (by decide) rfl) ?_
            simp only [fS, qA, qC, List.length_map, List.length_take, Nat.min_eq_left (show i + 1 ≤ p.caps.length from hl')]
            refine Sub.shape [] id (by omega) ?_ ?_ ?_ ?_ <;> simp [ints_rep]
          · simp only [decide_eq_false_iff_not] at hc
            have hie : p.caps.take i = p.caps := List.take_of_length_le (by omega)
            simp only [go_sem, qA, qB, qC, qD, qE, qF, qG, qH, hie]
            repeat (refine ⟨(by first | omega | (simp [-gD]; first | done | omega)), ?_⟩)
            refine ⟨_, Sub.refl _, FinS_tup (by simp) ?_⟩; simp [-List.drop_one]
            simp [sourceNew, hok]

/-- No row of a source is too long. -/
structure Small (s : Source) : Prop where
  ths : s.ths.length < 2 ^ 40
  chs : s.chs.length < 2 ^ 40
  tr : s.tr.length < 2 ^ 40
  regs : ∀ t ∈ s.ths, t.regs.length < 2 ^ 40
  list : ∀ c ∈ s.chs, c.list.length < 2 ^ 40

theorem threads_next (l : List Thread) (i : Nat) (h : i < l.length) : threads .own (l.take i) ++ [[AV.int .i64 (l.getD i default).at_, .sl .own 1 (ints (l.getD i default).regs), .int .i64 (l.getD i default).st]] = threads .own (l.take (i + 1)) := by
  rw [List.take_succ_eq_append_getElem h, ← threads_append]
  simp [threads, List.getD_eq_getElem?_getD, h]
theorem chans_next (l : List Chan) (i : Nat) (h : i < l.length) : chans .own (l.take i) ++ [[AV.int .i64 (l.getD i default).cap, .sl .own 1 (ints (l.getD i default).list), .bool (l.getD i default).closed]] = chans .own (l.take (i + 1)) := by
  rw [List.take_succ_eq_append_getElem h, ← chans_append]
  simp [chans, List.getD_eq_getElem?_getD, h]
theorem getD_mem {α : Type} (l : List α) (i : Nat) (d : α) (h : i < l.length) : l.getD i d ∈ l := by simp [List.getD_eq_getElem?_getD, h]

theorem copySource_ok (s : Source) (hs : Small s) : CallOk Try.prog num 49 [.agg (sourceC .bw s)] [] (.agg (sourceC .own s)) := by
  obtain ⟨hs1, hs2, hs3, hs4, hs5⟩ := hs
  refine enter (m := m49) (f := 49) (fn := Try.f98) Try.func98 (by kernel_rfl) rfl c49 rfl (by simp [Try.f98]) (by simp [bnds, bnd, nf_sl, nf_int, nf_bool, nf_str, ints_bnd]) (fun _ _ h => by simp [preH, look] at h) ?_
  unfold m49
  simp only [go_sem, qA, qB, qC, qD, qE, qF, qG, qH]
  repeat (refine ⟨(by first | omega | (simp [-gD]; first | done | omega)), ?_⟩)
  refine calls_intro (call_ok0 [] (copyNotes_ok s.tr (by omega)) ?_ ?_ ?_ ?_ ?_ ?_) ?_
  any_goals (first | omega | (simp [nilL, nilV]; done) | (simp [nilL, nilV, *]; done))
  try simp only [go_sem, qA, qB, qC, qD, qE, qF, qG, qH]
  repeat (refine ⟨(by first | omega | (simp [-gD]; first | done | omega)), ?_⟩)
  refine loop_intro (ι := Nat) (fun i => .mk [(1, .ptr 10 0 0), (2, .ptr 11 0 0), (3, .ptr 13 0 0), (13, .sl .bw 3 (threads .bw s.ths)), (14, .int .i64 s.ths.length), (15, .int .i64 i)] [(10, 3, [sourceC .bw s]), (11, 3, [[.nil, .nil, .nil]]), (13, 3, [[.sl .own 3 (threads .own (s.ths.take i)), .nil, .sl .own 2 (notes s.tr)]])] 14) (fun i => i ≤ s.ths.length) (fun i => s.ths.length - i) 0 (by simp) ?_ ?_
  · refine Sub.trans (Sub.fold1 13 2 12 rfl (by simp [-gD] <;> omega) rfl (by decide) (by decide) rfl) ?_
    simp only [fS, qA, qC]
    refine Sub.shape [] id (by omega) ?_ ?_ ?_ ?_ <;> simp [ints_rep]
  · rintro i hi
    simp only [go_sem, qA, qB, qC, qD, qE, qF, qG, qH]
    refine branch_intro (fun hc => ?_) (fun hc => ?_)
    · simp only [decide_eq_true_eq] at hc
      have hl' : i < s.ths.length := by omega
      have hlt : (s.ths.take i).length = i := by simp; omega
      have hr := hs4 _ (getD_mem s.ths i default hl')
      simp only [go_sem, qA, qB, qC, qD, qE, qF, qG, qH, wrap_succ (i := i) (by omega), threads_getD .bw s.ths i hl', hlt]
      repeat (refine ⟨(by first | omega | (simp [-gD]; first | done | omega)), ?_⟩)
      refine dcall_intro (call_ok0 [] (copyInts_ok (s.ths.getD i default).regs (by omega)) ?_ ?_ ?_ ?_ ?_ ?_) ?_ ?_
      any_goals (first | omega | (simp [nilL, nilV]; done) | (simp [nilL, nilV, *]; done))
      try simp only [go_sem, qA, qB, qC, qD, qE, qF, qG, qH]
      repeat (refine ⟨(by first | omega | (simp [-gD]; first | done | omega)), ?_⟩)
      simp only [go_sem, qA, qB, qC, qD, qE, qF, qG, qH, wrap_succ (i := i) (by omega), hlt]
      repeat (refine ⟨(by first | omega | (simp [-gD]; first | done | omega)), ?_⟩)
      refine back_intro (i + 1) ?_ hl' (by omega)
      refine Sub.trans (Sub.foldLast 18 1 16 rfl (by simp [-gD] <;> omega) rfl (by decide) (by decide) rfl) ?_
      simp only [fS, qA, qC, threads_next s.ths i hl']
      refine Sub.trans (Sub.fold1 13 0 18 rfl (by simp [-gD] <;> omega) rfl (by decide) (by decide) rfl) ?_
      simp only [fS, qA, qC, List.length_take, Nat.min_eq_left (show i + 1 ≤ s.ths.length from hl')]
      refine Sub.shape [] id (by omega) ?_ ?_ ?_ ?_ <;> simp [ints_rep]
    · simp only [decide_eq_false_iff_not] at hc
      have hie : s.ths.take i = s.ths := List.take_of_length_le (by omega)
      simp only [go_sem, qA, qB, qC, qD, qE, qF, qG, qH, hie]
      repeat (refine ⟨(by first | omega | (simp [-gD]; first | done | omega)), ?_⟩)
      refine loop_intro (ι := Nat) (fun i => .mk [(2, .ptr 11 0 0), (3, .ptr 13 0 0), (34, .sl .bw 3 (chans .bw s.chs)), (35, .int .i64 s.chs.length), (36, .int .i64 i)] [(11, 3, [[.nil, .nil, .nil]]), (13, 3, [[.sl .own 3 (threads .own s.ths), .sl .own 3 (chans .own (s.chs.take i)), .sl .own 2 (notes s.tr)]])] 14) (fun i => i ≤ s.chs.length) (fun i => s.chs.length - i) 0 (by simp) ?_ ?_
      · refine Sub.shape [] id (by omega) ?_ ?_ ?_ ?_ <;> simp [ints_rep]
      · rintro i hi
        simp only [go_sem, qA, qB, qC, qD, qE, qF, qG, qH]
        refine branch_intro (fun hc => ?_) (fun hc => ?_)
        · simp only [decide_eq_true_eq] at hc
          have hl' : i < s.chs.length := by omega
          have hlt : (s.chs.take i).length = i := by simp; omega
          have hr := hs5 _ (getD_mem s.chs i default hl')
          simp only [go_sem, qA, qB, qC, qD, qE, qF, qG, qH, wrap_succ (i := i) (by omega), chans_getD .bw s.chs i hl', hlt]
          repeat (refine ⟨(by first | omega | (simp [-gD]; first | done | omega)), ?_⟩)
          refine dcall_intro (call_ok0 [] (copyChan_ok (s.chs.getD i default) (by omega)) ?_ ?_ ?_ ?_ ?_ ?_) ?_ ?_
          any_goals (first | omega | (simp [nilL, nilV]; done) | (simp [nilL, nilV, *]; done))
          try simp only [go_sem, qA, qB, qC, qD, qE, qF, qG, qH]
          repeat (refine ⟨(by first | omega | (simp [-gD]; first | done | omega)), ?_⟩)
          simp only [go_sem, qA, qB, qC, qD, qE, qF, qG, qH, wrap_succ (i := i) (by omega), hlt]
          repeat (refine ⟨(by first | omega | (simp [-gD]; first | done | omega)), ?_⟩)
          refine back_intro (i + 1) ?_ hl' (by omega)
          refine Sub.trans (Sub.foldLast 18 1 16 rfl (by simp [-gD] <;> omega) rfl (by decide) (by decide) rfl) ?_
          simp only [fS, qA, qC, chans_next s.chs i hl']
          refine Sub.trans (Sub.fold1 13 1 18 rfl (by simp [-gD] <;> omega) rfl (by decide) (by decide) rfl) ?_
          simp only [fS, qA, qC, List.length_take, Nat.min_eq_left (show i + 1 ≤ s.chs.length from hl')]
          refine Sub.shape [] id (by omega) ?_ ?_ ?_ ?_ <;> simp [ints_rep]
        · simp only [decide_eq_false_iff_not] at hc
          have hie : s.chs.take i = s.chs := List.take_of_length_le (by omega)
          simp only [go_sem, qA, qB, qC, qD, qE, qF, qG, qH, hie]
          repeat (refine ⟨(by first | omega | (simp [-gD]; first | done | omega)), ?_⟩)
          refine ⟨_, Sub.refl _, FinS_one ?_⟩; simp [-List.drop_one]

theorem l4Copy_ok (s : Source) (hs : Small s) : CallOk Try.prog num 65 [.agg (sourceC .bw s)] [] (.agg (sourceC .own s)) := by
  obtain ⟨hs1, hs2, hs3, hs4, hs5⟩ := hs
  refine enter (m := m65) (f := 65) (fn := Try.f149) Try.func149 (by kernel_rfl) rfl c65 rfl (by simp [Try.f149]) (by simp [bnds, bnd, nf_sl, nf_int, nf_bool, nf_str, ints_bnd]) (fun _ _ h => by simp [preH, look] at h) ?_
  unfold m65
  simp only [go_sem, qA, qB, qC, qD, qE, qF, qG, qH]
  repeat (refine ⟨(by first | omega | (simp [-gD]; first | done | omega)), ?_⟩)
  refine loop_intro (ι := Nat) (fun i => .mk [(1, .ptr 10 0 0), (2, .ptr 11 0 0), (3, .ptr 14 0 0), (4, .int .i64 i)] [(10, 3, [sourceC .bw s]), (11, 3, [[.nil, .nil, .nil]]), (14, 3, [[.sl .own 3 (threads .own (s.ths.take i)), .nil, .sl .own 2 (notes s.tr)]])] 15) (fun i => i ≤ s.ths.length) (fun i => s.ths.length - i) 0 (by simp) ?_ ?_
  · refine Sub.trans (Sub.fold1 14 2 13 rfl (by simp [-gD] <;> omega) rfl (by decide) (by decide) rfl) ?_
    simp only [fS, qA, qC]
    refine Sub.shape [] id (by omega) ?_ ?_ ?_ ?_ <;> simp [ints_rep]
  · rintro i hi
    simp only [go_sem, qA, qB, qC, qD, qE, qF, qG, qH]
    repeat (refine ⟨(by first | omega | (simp [-gD]; first | done | omega)), ?_⟩)
    refine branch_intro (fun hc => ?_) (fun hc => ?_)
    · simp only [decide_eq_true_eq] at hc
      have hl' : i < s.ths.length := by omega
      have hlt : (s.ths.take i).length = i := by simp; omega
      have hr := hs4 _ (getD_mem s.ths i default hl')
      simp only [go_sem, qA, qB, qC, qD, qE, qF, qG, qH, wrap_succ (i := i) (by omega), threads_getD .bw s.ths i hl', hlt]
      repeat (refine ⟨(by first | omega | (simp [-gD]; first | done | omega)), ?_⟩)
      refine back_intro (i + 1) ?_ hl' (by omega)
      refine Sub.trans (Sub.foldLast 20 1 17 rfl (by simp [-gD] <;> omega) rfl (by decide) (by decide) rfl) ?_
      simp only [fS, qA, qC, threads_next s.ths i hl']
      refine Sub.trans (Sub.fold1 14 0 20 rfl (by simp [-gD] <;> omega) rfl (by decide) (by decide) rfl) ?_
      simp only [fS, qA, qC, List.length_take, Nat.min_eq_left (show i + 1 ≤ s.ths.length from hl')]
      refine Sub.shape [] id (by omega) ?_ ?_ ?_ ?_ <;> simp [ints_rep]
    · simp only [decide_eq_false_iff_not] at hc
      have hie : s.ths.take i = s.ths := List.take_of_length_le (by omega)
      simp only [go_sem, qA, qB, qC, qD, qE, qF, qG, qH, hie]
      repeat (refine ⟨(by first | omega | (simp [-gD]; first | done | omega)), ?_⟩)
      refine loop_intro (ι := Nat) (fun i => .mk [(1, .ptr 10 0 0), (2, .ptr 11 0 0), (3, .ptr 14 0 0), (6, .int .i64 i)] [(10, 3, [sourceC .bw s]), (11, 3, [[.nil, .nil, .nil]]), (14, 3, [[.sl .own 3 (threads .own s.ths), .sl .own 3 (chans .own (s.chs.take i)), .sl .own 2 (notes s.tr)]])] 15) (fun i => i ≤ s.chs.length) (fun i => s.chs.length - i) 0 (by simp) ?_ ?_
      · refine Sub.shape [] id (by omega) ?_ ?_ ?_ ?_ <;> simp [ints_rep]
      · rintro i hi
        simp only [go_sem, qA, qB, qC, qD, qE, qF, qG, qH]
        repeat (refine ⟨(by first | omega | (simp [-gD]; first | done | omega)), ?_⟩)
        refine branch_intro (fun hc => ?_) (fun hc => ?_)
        · simp only [decide_eq_true_eq] at hc
          have hl' : i < s.chs.length := by omega
          have hlt : (s.chs.take i).length = i := by simp; omega
          have hr := hs5 _ (getD_mem s.chs i default hl')
          simp only [go_sem, qA, qB, qC, qD, qE, qF, qG, qH, wrap_succ (i := i) (by omega), chans_getD .bw s.chs i hl', hlt]
          repeat (refine ⟨(by first | omega | (simp [-gD]; first | done | omega)), ?_⟩)
          refine dcall_intro (call_ok0 [] (l3Copy_ok (s.chs.getD i default) (by omega)) ?_ ?_ ?_ ?_ ?_ ?_) ?_ ?_
          any_goals (first | omega | (simp [nilL, nilV]; done) | (simp [nilL, nilV, *]; done))
          try simp only [go_sem, qA, qB, qC, qD, qE, qF, qG, qH]
          repeat (refine ⟨(by first | omega | (simp [-gD]; first | done | omega)), ?_⟩)
          simp only [go_sem, qA, qB, qC, qD, qE, qF, qG, qH, wrap_succ (i := i) (by omega), hlt]
          repeat (refine ⟨(by first | omega | (simp [-gD]; first | done | omega)), ?_⟩)
          refine back_intro (i + 1) ?_ hl' (by omega)
          refine Sub.trans (Sub.foldLast 18 1 16 rfl (by simp [-gD] <;> omega) rfl (by decide) (by decide) rfl) ?_
          simp only [fS, qA, qC, chans_next s.chs i hl']
          refine Sub.trans (Sub.fold1 14 1 18 rfl (by simp [-gD] <;> omega) rfl (by decide) (by decide) rfl) ?_
          simp only [fS, qA, qC, List.length_take, Nat.min_eq_left (show i + 1 ≤ s.chs.length from hl')]
          refine Sub.shape [] id (by omega) ?_ ?_ ?_ ?_ <;> simp [ints_rep]
        · simp only [decide_eq_false_iff_not] at hc
          have hie : s.chs.take i = s.chs := List.take_of_length_le (by omega)
          simp only [go_sem, qA, qB, qC, qD, qE, qF, qG, qH, hie]
          repeat (refine ⟨(by first | omega | (simp [-gD]; first | done | omega)), ?_⟩)
          refine ⟨_, Sub.refl _, FinS_one ?_⟩; simp [-List.drop_one]

def notesOk (l : List Note) (n : Int) : Bool := l.all (fun x => within x.who 0 (n - 1)) && decide ((l.length : Int) ≤ 4000)

theorem notesOk_ok (l : List Note) (n : Int) (hl : l.length < 2 ^ 47) (h0 : 0 ≤ n) (h1 : n < 2 ^ 62) : CallOk Try.prog num 71 [.sl .bw 2 (notes l), .int .i64 n] [] (.bool (notesOk l n)) := by
  refine enter (m := m71) (f := 71) (fn := Try.f163) Try.func163 (by kernel_rfl) rfl c71 rfl (by simp [Try.f163]) (by simp [bnds, bnd, nf_sl, nf_int, nf_bool, nf_str, ints_bnd]) (fun _ _ h => by simp [preH, look] at h) ?_
  unfold m71
  have hw1 : IntKind.i64.wrap (n - 1) = n - 1 := wrap64 (by omega) (by omega)
  simp only [go_sem, qA, qB, qC, qD, qE, qF, qG, qH]
  repeat (refine ⟨(by first | omega | (simp [-gD]; first | done | omega)), ?_⟩)
  refine loop_intro (ι := Nat) (fun i => .mk [(0, .sl .bw 2 (notes l)), (1, .int .i64 n), (7, .sl .bw 2 (notes l)), (8, .int .i64 l.length), (9, .int .i64 i)] [] 10) (fun i => i ≤ l.length ∧ (l.take i).all (fun x => within x.who 0 (n - 1)) = true) (fun i => l.length - i) 0 (by simp) ?_ ?_
  · refine Sub.shape [] id (by omega) ?_ ?_ ?_ ?_ <;> simp [ints_rep]
  · rintro i ⟨hi, hp⟩
    simp only [go_sem, qA, qB, qC, qD, qE, qF, qG, qH]
    refine branch_intro (fun hc => ?_) (fun hc => ?_)
    · simp only [decide_eq_true_eq] at hc
      have hl' : i < l.length := by omega
      simp only [go_sem, qA, qB, qC, qD, qE, qF, qG, qH, notes_getD l i hl', hw1]
      repeat (refine ⟨(by first | omega | (simp [-gD]; first | done | omega)), ?_⟩)
      refine calls_intro (call_ok0 [] (within_ok (l.getD i default).who 0 (n - 1)) ?_ ?_ ?_ ?_ ?_ ?_) ?_
      any_goals (first | omega | (simp [nilL, nilV]; done) | (simp [nilL, nilV, *]; done))
      try simp only [go_sem, qA, qB, qC, qD, qE, qF, qG, qH]
      repeat (refine ⟨(by first | omega | (simp [-gD]; first | done | omega)), ?_⟩)
      cases hw : within (l.getD i default).who 0 (n - 1)
      · simp only [go_sem, qA, qB, qC, qD, qE, qF, qG, qH, hw]
        repeat (refine ⟨(by first | omega | (simp [-gD]; first | done | omega)), ?_⟩)
        refine ⟨_, Sub.refl _, ?_⟩; simp [FinS, nilL, nilV, oneOr, -List.drop_one]
        simp only [notesOk]
        rw [all_stop (p := fun x : Note => within x.who 0 (n - 1)) hl' hw]
        rfl
      · simp only [go_sem, qA, qB, qC, qD, qE, qF, qG, qH, hw, wrap_succ (i := i) (by omega)]
        repeat (refine ⟨(by first | omega | (simp [-gD]; first | done | omega)), ?_⟩)
        refine back_intro (i + 1) (Sub.shape [] id (by omega) ?_ ?_ ?_ ?_) ?_ ?_
        any_goals (first | omega | (simp [ints_rep]; done))
        exact ⟨hl', all_step (p := fun x : Note => within x.who 0 (n - 1)) hp hl' hw⟩
    · simp only [decide_eq_false_iff_not] at hc
      simp only [go_sem, qA, qB, qC, qD, qE, qF, qG, qH]
      repeat (refine ⟨(by first | omega | (simp [-gD]; first | done | omega)), ?_⟩)
      refine ⟨_, Sub.refl _, ?_⟩; simp [FinS, nilL, nilV, oneOr, -List.drop_one]
      simp only [notesOk, all_end hp hc]
      simp

def threadOk (b : List Ins) (t : Thread) : Bool := decide ((t.regs.length : Int) = 4) && within t.st 0 2 && within t.at_ 0 (b.length - 1)
def sourceOk (p : Prog) (s : Source) : Bool :=
  progOk p && decide (s.ths.length = p.bods.length) && decide (s.chs.length = p.caps.length) && notesOk s.tr s.ths.length &&
  (List.range s.ths.length).all (fun i => threadOk (p.bods.getD i []) (s.ths.getD i default)) &&
  (List.range s.chs.length).all (fun i => chanOk (s.chs.getD i default) && decide ((s.chs.getD i default).cap = p.caps.getD i 0))

theorem range_step {P : Nat → Bool} {i : Nat} (h : (List.range i).all P = true) (hp : P i = true) : (List.range (i + 1)).all P = true := by
  rw [List.range_succ, List.all_append, h]
  simp [hp]
theorem range_stop {P : Nat → Bool} {i n : Nat} (hi : i < n) (hp : P i = false) : (List.range n).all P = false := by
  cases h : (List.range n).all P with
  | false => rfl
  | true => rw [List.all_eq_true.1 h i (List.mem_range.2 hi)] at hp; exact absurd hp (by decide)
theorem range_end {P : Nat → Bool} {i n : Nat} (h : (List.range i).all P = true) (hi : ¬ (i : Int) < n) (hle : i ≤ n) : (List.range n).all P = true := by
  have : i = n := by omega
  rw [← this]
  exact h

/-- No row of a program is too long. -/
structure SmallP (p : Prog) : Prop where
  caps : p.caps.length < 2 ^ 40
  bods : p.bods.length < 2 ^ 40
  body : ∀ b ∈ p.bods, b.length < 2 ^ 40

theorem SmallP.body' {p : Prog} (h : SmallP p) : ∀ b ∈ p.bods, b.length < 2 ^ 47 := fun b hb => Nat.lt_trans (h.body b hb) (by decide)

theorem implSourceOk_ok (p : Prog) (s : Source) (hp : SmallP p) (hs : Small s) : CallOk Try.prog num 50 [.agg (progC .bw p), .agg (sourceC .bw s)] [] (.bool (sourceOk p s)) := by
  have hb := hp.body'
  obtain ⟨hp1, hp2, hp3⟩ := hp
  obtain ⟨hs1, hs2, hs3, hs4, hs5⟩ := hs
  refine enter (m := m50) (f := 50) (fn := Try.f79) Try.func79 (by kernel_rfl) rfl c50 rfl (by simp [Try.f79]) (by simp [bnds, bnd, nf_sl, nf_int, nf_bool, nf_str, ints_bnd]) (fun _ _ h => by simp [preH, look] at h) ?_
  unfold m50
  simp only [go_sem, qA, qB, qC, qD, qE, qF, qG, qH]
  repeat (refine ⟨(by first | omega | (simp [-gD]; first | done | omega)), ?_⟩)
  refine calls_intro (call_ok0 [] (implProgOk_ok p (by omega) (by omega) hb) ?_ ?_ ?_ ?_ ?_ ?_) ?_
  any_goals (first | omega | (simp [nilL, nilV]; done) | (simp [nilL, nilV, *]; done))
  try simp only [go_sem, qA, qB, qC, qD, qE, qF, qG, qH]
  repeat (refine ⟨(by first | omega | (simp [-gD]; first | done | omega)), ?_⟩)
  cases h : progOk p
  · simp only [go_sem, qA, qB, qC, qD, qE, qF, qG, qH, h]
    repeat (refine ⟨(by first | omega | (simp [-gD]; first | done | omega)), ?_⟩)
    refine ⟨_, Sub.refl _, ?_⟩; simp [FinS, nilL, nilV, oneOr, -List.drop_one]
    simp [sourceOk, h]
  · simp only [go_sem, qA, qB, qC, qD, qE, qF, qG, qH, h]
    repeat (refine ⟨(by first | omega | (simp [-gD]; first | done | omega)), ?_⟩)
    by_cases h1 : (s.ths.length : Int) = p.bods.length
    case neg =>
      simp only [go_sem, qA, qB, qC, qD, qE, qF, qG, qH, h1]
      repeat (refine ⟨(by first | omega | (simp [-gD]; first | done | omega)), ?_⟩)
      refine ⟨_, Sub.refl _, ?_⟩; simp [FinS, nilL, nilV, oneOr, -List.drop_one]
      have : ¬ s.ths.length = p.bods.length := by omega
      simp [sourceOk, this]
    simp only [go_sem, qA, qB, qC, qD, qE, qF, qG, qH, h1]
    repeat (refine ⟨(by first | omega | (simp [-gD]; first | done | omega)), ?_⟩)
    by_cases h2 : (s.chs.length : Int) = p.caps.length
    case neg =>
      simp only [go_sem, qA, qB, qC, qD, qE, qF, qG, qH, h2]
      repeat (refine ⟨(by first | omega | (simp [-gD]; first | done | omega)), ?_⟩)
      refine ⟨_, Sub.refl _, ?_⟩; simp [FinS, nilL, nilV, oneOr, -List.drop_one]
      have : ¬ s.chs.length = p.caps.length := by omega
      simp [sourceOk, this]
    simp only [go_sem, qA, qB, qC, qD, qE, qF, qG, qH, h2]
    repeat (refine ⟨(by first | omega | (simp [-gD]; first | done | omega)), ?_⟩)
    refine calls_intro (call_ok0 [] (notesOk_ok s.tr s.ths.length (by omega) (by omega) (by omega)) ?_ ?_ ?_ ?_ ?_ ?_) ?_
    any_goals (first | omega | (simp [nilL, nilV]; done) | (simp [nilL, nilV, *]; done))
    try simp only [go_sem, qA, qB, qC, qD, qE, qF, qG, qH]
    repeat (refine ⟨(by first | omega | (simp [-gD]; first | done | omega)), ?_⟩)
    cases h3 : notesOk s.tr s.ths.length
    · simp only [go_sem, qA, qB, qC, qD, qE, qF, qG, qH, h3]
      repeat (refine ⟨(by first | omega | (simp [-gD]; first | done | omega)), ?_⟩)
      refine ⟨_, Sub.refl _, ?_⟩; simp [FinS, nilL, nilV, oneOr, -List.drop_one]
      simp [sourceOk, h3]
    simp only [go_sem, qA, qB, qC, qD, qE, qF, qG, qH, h3]
    repeat (refine ⟨(by first | omega | (simp [-gD]; first | done | omega)), ?_⟩)
    refine loop_intro (ι := Nat) (fun i => .mk [(2, .ptr 10 0 0), (3, .ptr 11 0 0), (40, .sl .bw 3 (threads .bw s.ths)), (41, .int .i64 s.ths.length), (42, .int .i64 i)] [(10, 2, [progC .bw p]), (11, 3, [sourceC .bw s])] 12) (fun i => i ≤ s.ths.length ∧ (List.range i).all (fun i => threadOk (p.bods.getD i []) (s.ths.getD i default)) = true) (fun i => s.ths.length - i) 0 (by simp) ?_ ?_
    · refine Sub.shape [] id (by omega) ?_ ?_ ?_ ?_ <;> simp [ints_rep]
    · rintro i ⟨hi, hpr⟩
      simp only [go_sem, qA, qB, qC, qD, qE, qF, qG, qH]
      refine branch_intro (fun hc => ?_) (fun hc => ?_)
      · simp only [decide_eq_true_eq] at hc
        have hl' : i < s.ths.length := by omega
        have hlb : i < p.bods.length := by omega
        have hbl := hp3 _ (getD_mem p.bods i [] hlb)
        have hw1 : IntKind.i64.wrap (((p.bods.getD i []).length : Int) - 1) = ((p.bods.getD i []).length : Int) - 1 := wrap64 (by omega) (by omega)
        simp only [go_sem, qA, qB, qC, qD, qE, qF, qG, qH, threads_getD .bw s.ths i hl']
        repeat (refine ⟨(by first | omega | (simp [-gD]; first | done | omega)), ?_⟩)
        by_cases h4 : ((s.ths.getD i default).regs.length : Int) = 4
        case neg =>
          simp only [go_sem, qA, qB, qC, qD, qE, qF, qG, qH, h4]
          repeat (refine ⟨(by first | omega | (simp [-gD]; first | done | omega)), ?_⟩)
          refine ⟨_, Sub.refl _, ?_⟩; simp [FinS, nilL, nilV, oneOr, -List.drop_one]
          simp only [sourceOk]
          rw [range_stop (P := fun i => threadOk (p.bods.getD i []) (s.ths.getD i default)) hl' (by simp only [threadOk, h4]; rfl)]
          simp
        simp only [go_sem, qA, qB, qC, qD, qE, qF, qG, qH, h4]
        repeat (refine ⟨(by first | omega | (simp [-gD]; first | done | omega)), ?_⟩)
        refine dcall_intro (call_ok0 [] (within_ok (s.ths.getD i default).st 0 2) ?_ ?_ ?_ ?_ ?_ ?_) ?_ ?_
        any_goals (first | omega | (simp [nilL, nilV]; done) | (simp [nilL, nilV, *]; done))
        try simp only [go_sem, qA, qB, qC, qD, qE, qF, qG, qH]
        repeat (refine ⟨(by first | omega | (simp [-gD]; first | done | omega)), ?_⟩)
        cases h5 : within (s.ths.getD i default).st 0 2
        · simp only [go_sem, qA, qB, qC, qD, qE, qF, qG, qH, h5]
          repeat (refine ⟨(by first | omega | (simp [-gD]; first | done | omega)), ?_⟩)
          refine ⟨_, Sub.refl _, ?_⟩; simp [FinS, nilL, nilV, oneOr, -List.drop_one]
          simp only [sourceOk]
          rw [range_stop (P := fun i => threadOk (p.bods.getD i []) (s.ths.getD i default)) hl' (by simp only [threadOk, h4, h5]; rfl)]
          simp
        simp only [go_sem, qA, qB, qC, qD, qE, qF, qG, qH, h5, bodies_getD .bw p.bods i hlb, hw1]
        repeat (refine ⟨(by first | omega | (simp [-gD]; first | done | omega)), ?_⟩)
        refine dcall_intro (call_ok0 [] (within_ok (s.ths.getD i default).at_ 0 ((p.bods.getD i []).length - 1)) ?_ ?_ ?_ ?_ ?_ ?_) ?_ ?_
        any_goals (first | omega | (simp [nilL, nilV]; done) | (simp [nilL, nilV, *]; done))
        try simp only [go_sem, qA, qB, qC, qD, qE, qF, qG, qH]
        repeat (refine ⟨(by first | omega | (simp [-gD]; first | done | omega)), ?_⟩)
        cases h6 : within (s.ths.getD i default).at_ 0 ((p.bods.getD i []).length - 1)
        · simp only [go_sem, qA, qB, qC, qD, qE, qF, qG, qH, h6]
          repeat (refine ⟨(by first | omega | (simp [-gD]; first | done | omega)), ?_⟩)
          refine ⟨_, Sub.refl _, ?_⟩; simp [FinS, nilL, nilV, oneOr, -List.drop_one]
          simp only [sourceOk]
          rw [range_stop (P := fun i => threadOk (p.bods.getD i []) (s.ths.getD i default)) hl' (by simp only [threadOk, h4, h5, h6]; rfl)]
          simp
        simp only [go_sem, qA, qB, qC, qD, qE, qF, qG, qH, h6, wrap_succ (i := i) (by omega)]
        repeat (refine ⟨(by first | omega | (simp [-gD]; first | done | omega)), ?_⟩)
        refine back_intro (i + 1) (Sub.shape [] id (by omega) ?_ ?_ ?_ ?_) ?_ ?_
        any_goals (first | omega | (simp [ints_rep]; done))
        exact ⟨hl', range_step hpr (by simp only [threadOk, h4, h5, h6]; rfl)⟩
      · simp only [decide_eq_false_iff_not] at hc
        have he1 := range_end hpr hc hi
        simp only [go_sem, qA, qB, qC, qD, qE, qF, qG, qH]
        repeat (refine ⟨(by first | omega | (simp [-gD]; first | done | omega)), ?_⟩)
        refine loop_intro (ι := Nat) (fun i => .mk [(2, .ptr 10 0 0), (3, .ptr 11 0 0), (72, .sl .bw 3 (chans .bw s.chs)), (73, .int .i64 s.chs.length), (74, .int .i64 i)] [(10, 2, [progC .bw p]), (11, 3, [sourceC .bw s])] 12) (fun i => i ≤ s.chs.length ∧ (List.range i).all (fun i => chanOk (s.chs.getD i default) && decide ((s.chs.getD i default).cap = p.caps.getD i 0)) = true) (fun i => s.chs.length - i) 0 (by simp) ?_ ?_
        · refine Sub.shape [] id (by omega) ?_ ?_ ?_ ?_ <;> simp [ints_rep]
        · rintro i ⟨hi, hpr⟩
          simp only [go_sem, qA, qB, qC, qD, qE, qF, qG, qH]
          refine branch_intro (fun hc => ?_) (fun hc => ?_)
          · simp only [decide_eq_true_eq] at hc
            have hl' : i < s.chs.length := by omega
            have hlb : i < p.caps.length := by omega
            simp only [go_sem, qA, qB, qC, qD, qE, qF, qG, qH, chans_getD .bw s.chs i hl']
            repeat (refine ⟨(by first | omega | (simp [-gD]; first | done | omega)), ?_⟩)
            refine dcall_intro (call_ok0 [] (implChanOk_ok (s.chs.getD i default)) ?_ ?_ ?_ ?_ ?_ ?_) ?_ ?_
            any_goals (first | omega | (simp [nilL, nilV]; done) | (simp [nilL, nilV, *]; done))
            try simp only [go_sem, qA, qB, qC, qD, qE, qF, qG, qH]
            repeat (refine ⟨(by first | omega | (simp [-gD]; first | done | omega)), ?_⟩)
            cases h5 : chanOk (s.chs.getD i default)
            · simp only [go_sem, qA, qB, qC, qD, qE, qF, qG, qH, h5]
              repeat (refine ⟨(by first | omega | (simp [-gD]; first | done | omega)), ?_⟩)
              refine ⟨_, Sub.refl _, ?_⟩; simp [FinS, nilL, nilV, oneOr, -List.drop_one]
              simp only [sourceOk]
              rw [range_stop (P := fun i => chanOk (s.chs.getD i default) && decide ((s.chs.getD i default).cap = p.caps.getD i 0)) hl' (by simp only [h5]; rfl)]
              simp
            simp only [go_sem, qA, qB, qC, qD, qE, qF, qG, qH, h5, ints_getD p.caps i hlb]
            repeat (refine ⟨(by first | omega | (simp [-gD]; first | done | omega)), ?_⟩)
            by_cases h6 : (s.chs.getD i default).cap = p.caps.getD i 0
            case neg =>
              simp only [go_sem, qA, qB, qC, qD, qE, qF, qG, qH, h6]
              repeat (refine ⟨(by first | omega | (simp [-gD]; first | done | omega)), ?_⟩)
              refine ⟨_, Sub.refl _, ?_⟩; simp [FinS, nilL, nilV, oneOr, -List.drop_one]
              simp only [sourceOk]
              rw [range_stop (P := fun i => chanOk (s.chs.getD i default) && decide ((s.chs.getD i default).cap = p.caps.getD i 0)) hl' (by simp only [h5, h6]; rfl)]
              simp
            simp only [go_sem, qA, qB, qC, qD, qE, qF, qG, qH, h6, wrap_succ (i := i) (by omega)]
            repeat (refine ⟨(by first | omega | (simp [-gD]; first | done | omega)), ?_⟩)
            refine back_intro (i + 1) (Sub.shape [] id (by omega) ?_ ?_ ?_ ?_) ?_ ?_
            any_goals (first | omega | (simp [ints_rep]; done))
            exact ⟨hl', range_step hpr (by simp only [h5, h6]; rfl)⟩
          · simp only [decide_eq_false_iff_not] at hc
            have he2 := range_end hpr hc hi
            simp only [go_sem, qA, qB, qC, qD, qE, qF, qG, qH]
            repeat (refine ⟨(by first | omega | (simp [-gD]; first | done | omega)), ?_⟩)
            refine ⟨_, Sub.refl _, ?_⟩; simp [FinS, nilL, nilV, oneOr, -List.drop_one]
            have e1 : s.ths.length = p.bods.length := by omega
            have e2 : s.chs.length = p.caps.length := by omega
            simp only [sourceOk]
            rw [he1, he2, h, h3]
            simp [e1, e2]

theorem specSourceOk_ok (p : Prog) (s : Source) (hp : SmallP p) (hs : Small s) : CallOk Try.prog num 63 [.agg (progC .bw p), .agg (sourceC .bw s)] [] (.bool (sourceOk p s)) := by
  have hb := hp.body'
  obtain ⟨hp1, hp2, hp3⟩ := hp
  obtain ⟨hs1, hs2, hs3, hs4, hs5⟩ := hs
  refine enter (m := m63) (f := 63) (fn := Try.f148) Try.func148 (by kernel_rfl) rfl c63 rfl (by simp [Try.f148]) (by simp [bnds, bnd, nf_sl, nf_int, nf_bool, nf_str, ints_bnd]) (fun _ _ h => by simp [preH, look] at h) ?_
  unfold m63
  simp only [go_sem, qA, qB, qC, qD, qE, qF, qG, qH]
  repeat (refine ⟨(by first | omega | (simp [-gD]; first | done | omega)), ?_⟩)
  refine calls_intro (call_ok0 [] (specProgOk_ok p (by omega) (by omega) hb) ?_ ?_ ?_ ?_ ?_ ?_) ?_
  any_goals (first | omega | (simp [nilL, nilV]; done) | (simp [nilL, nilV, *]; done))
  try simp only [go_sem, qA, qB, qC, qD, qE, qF, qG, qH]
  repeat (refine ⟨(by first | omega | (simp [-gD]; first | done | omega)), ?_⟩)
  cases h : progOk p
  · simp only [go_sem, qA, qB, qC, qD, qE, qF, qG, qH, h]
    repeat (refine ⟨(by first | omega | (simp [-gD]; first | done | omega)), ?_⟩)
    refine ⟨_, Sub.refl _, ?_⟩; simp [FinS, nilL, nilV, oneOr, -List.drop_one]
    simp [sourceOk, h]
  · simp only [go_sem, qA, qB, qC, qD, qE, qF, qG, qH, h]
    repeat (refine ⟨(by first | omega | (simp [-gD]; first | done | omega)), ?_⟩)
    by_cases h1 : (s.ths.length : Int) = p.bods.length
    case neg =>
      simp only [go_sem, qA, qB, qC, qD, qE, qF, qG, qH, h1]
      repeat (refine ⟨(by first | omega | (simp [-gD]; first | done | omega)), ?_⟩)
      refine ⟨_, Sub.refl _, ?_⟩; simp [FinS, nilL, nilV, oneOr, -List.drop_one]
      have : ¬ s.ths.length = p.bods.length := by omega
      simp [sourceOk, this]
    simp only [go_sem, qA, qB, qC, qD, qE, qF, qG, qH, h1]
    repeat (refine ⟨(by first | omega | (simp [-gD]; first | done | omega)), ?_⟩)
    by_cases h2 : (s.chs.length : Int) = p.caps.length
    case neg =>
      simp only [go_sem, qA, qB, qC, qD, qE, qF, qG, qH, h2]
      repeat (refine ⟨(by first | omega | (simp [-gD]; first | done | omega)), ?_⟩)
      refine ⟨_, Sub.refl _, ?_⟩; simp [FinS, nilL, nilV, oneOr, -List.drop_one]
      have : ¬ s.chs.length = p.caps.length := by omega
      simp [sourceOk, this]
    simp only [go_sem, qA, qB, qC, qD, qE, qF, qG, qH, h2]
    repeat (refine ⟨(by first | omega | (simp [-gD]; first | done | omega)), ?_⟩)
    by_cases h3 : (4000 : Int) < s.tr.length
    · simp only [go_sem, qA, qB, qC, qD, qE, qF, qG, qH, h3]
      repeat (refine ⟨(by first | omega | (simp [-gD]; first | done | omega)), ?_⟩)
      refine ⟨_, Sub.refl _, ?_⟩; simp [FinS, nilL, nilV, oneOr, -List.drop_one]
      have : ¬ (s.tr.length : Int) ≤ 4000 := by omega
      simp [sourceOk, notesOk, this]
    simp only [go_sem, qA, qB, qC, qD, qE, qF, qG, qH, h3]
    repeat (refine ⟨(by first | omega | (simp [-gD]; first | done | omega)), ?_⟩)
    refine loop_intro (ι := Nat) (fun i => .mk [(2, .ptr 10 0 0), (3, .ptr 11 0 0), (5, .int .i64 i)] [(10, 2, [progC .bw p]), (11, 3, [sourceC .bw s])] 12) (fun i => i ≤ s.ths.length ∧ (List.range i).all (fun i => threadOk (p.bods.getD i []) (s.ths.getD i default)) = true) (fun i => s.ths.length - i) 0 (by simp) ?_ ?_
    · refine Sub.shape [] id (by omega) ?_ ?_ ?_ ?_ <;> simp [ints_rep]
    · rintro i ⟨hi, hpr⟩
      simp only [go_sem, qA, qB, qC, qD, qE, qF, qG, qH]
      repeat (refine ⟨(by first | omega | (simp [-gD]; first | done | omega)), ?_⟩)
      refine branch_intro (fun hc => ?_) (fun hc => ?_)
      · simp only [decide_eq_true_eq] at hc
        have hl' : i < s.ths.length := by omega
        have hlb : i < p.bods.length := by omega
        have hbl := hp3 _ (getD_mem p.bods i [] hlb)
        have hw1 : IntKind.i64.wrap (((p.bods.getD i []).length : Int) - 1) = ((p.bods.getD i []).length : Int) - 1 := wrap64 (by omega) (by omega)
        simp only [go_sem, qA, qB, qC, qD, qE, qF, qG, qH, threads_getD .bw s.ths i hl']
        repeat (refine ⟨(by first | omega | (simp [-gD]; first | done | omega)), ?_⟩)
        by_cases h4 : ((s.ths.getD i default).regs.length : Int) = 4
        case neg =>
          simp only [go_sem, qA, qB, qC, qD, qE, qF, qG, qH, h4]
          repeat (refine ⟨(by first | omega | (simp [-gD]; first | done | omega)), ?_⟩)
          refine ⟨_, Sub.refl _, ?_⟩; simp [FinS, nilL, nilV, oneOr, -List.drop_one]
          simp only [sourceOk]
          rw [range_stop (P := fun i => threadOk (p.bods.getD i []) (s.ths.getD i default)) hl' (by simp only [threadOk, h4]; rfl)]
          simp
        simp only [go_sem, qA, qB, qC, qD, qE, qF, qG, qH, h4]
        repeat (refine ⟨(by first | omega | (simp [-gD]; first | done | omega)), ?_⟩)
        refine dcall_intro (call_ok0 [] (l1In_ok (s.ths.getD i default).st 0 2) ?_ ?_ ?_ ?_ ?_ ?_) ?_ ?_
        any_goals (first | omega | (simp [nilL, nilV]; done) | (simp [nilL, nilV, *]; done))
        try simp only [go_sem, qA, qB, qC, qD, qE, qF, qG, qH]
        repeat (refine ⟨(by first | omega | (simp [-gD]; first | done | omega)), ?_⟩)
        cases h5 : within (s.ths.getD i default).st 0 2
        · simp only [go_sem, qA, qB, qC, qD, qE, qF, qG, qH, h5]
          repeat (refine ⟨(by first | omega | (simp [-gD]; first | done | omega)), ?_⟩)
          refine ⟨_, Sub.refl _, ?_⟩; simp [FinS, nilL, nilV, oneOr, -List.drop_one]
          simp only [sourceOk]
          rw [range_stop (P := fun i => threadOk (p.bods.getD i []) (s.ths.getD i default)) hl' (by simp only [threadOk, h4, h5]; rfl)]
          simp
        simp only [go_sem, qA, qB, qC, qD, qE, qF, qG, qH, h5, bodies_getD .bw p.bods i hlb, hw1]
        repeat (refine ⟨(by first | omega | (simp [-gD]; first | done | omega)), ?_⟩)
        refine dcall_intro (call_ok0 [] (l1In_ok (s.ths.getD i default).at_ 0 ((p.bods.getD i []).length - 1)) ?_ ?_ ?_ ?_ ?_ ?_) ?_ ?_
        any_goals (first | omega | (simp [nilL, nilV]; done) | (simp [nilL, nilV, *]; done))
        try simp only [go_sem, qA, qB, qC, qD, qE, qF, qG, qH]
        repeat (refine ⟨(by first | omega | (simp [-gD]; first | done | omega)), ?_⟩)
        cases h6 : within (s.ths.getD i default).at_ 0 ((p.bods.getD i []).length - 1)
        · simp only [go_sem, qA, qB, qC, qD, qE, qF, qG, qH, h6]
          repeat (refine ⟨(by first | omega | (simp [-gD]; first | done | omega)), ?_⟩)
          refine ⟨_, Sub.refl _, ?_⟩; simp [FinS, nilL, nilV, oneOr, -List.drop_one]
          simp only [sourceOk]
          rw [range_stop (P := fun i => threadOk (p.bods.getD i []) (s.ths.getD i default)) hl' (by simp only [threadOk, h4, h5, h6]; rfl)]
          simp
        simp only [go_sem, qA, qB, qC, qD, qE, qF, qG, qH, h6, wrap_succ (i := i) (by omega)]
        repeat (refine ⟨(by first | omega | (simp [-gD]; first | done | omega)), ?_⟩)
        refine back_intro (i + 1) (Sub.shape [] id (by omega) ?_ ?_ ?_ ?_) ?_ ?_
        any_goals (first | omega | (simp [ints_rep]; done))
        exact ⟨hl', range_step hpr (by simp only [threadOk, h4, h5, h6]; rfl)⟩
      · simp only [decide_eq_false_iff_not] at hc
        have he1 := range_end hpr hc hi
        simp only [go_sem, qA, qB, qC, qD, qE, qF, qG, qH]
        repeat (refine ⟨(by first | omega | (simp [-gD]; first | done | omega)), ?_⟩)
        refine loop_intro (ι := Nat) (fun i => .mk [(2, .ptr 10 0 0), (3, .ptr 11 0 0), (7, .int .i64 i)] [(10, 2, [progC .bw p]), (11, 3, [sourceC .bw s])] 12) (fun i => i ≤ s.chs.length ∧ (List.range i).all (fun i => chanOk (s.chs.getD i default) && decide ((s.chs.getD i default).cap = p.caps.getD i 0)) = true) (fun i => s.chs.length - i) 0 (by simp) ?_ ?_
        · refine Sub.shape [] id (by omega) ?_ ?_ ?_ ?_ <;> simp [ints_rep]
        · rintro i ⟨hi, hpr⟩
          simp only [go_sem, qA, qB, qC, qD, qE, qF, qG, qH]
          repeat (refine ⟨(by first | omega | (simp [-gD]; first | done | omega)), ?_⟩)
          refine branch_intro (fun hc => ?_) (fun hc => ?_)
          · simp only [decide_eq_true_eq] at hc
            have hl' : i < s.chs.length := by omega
            have hlb : i < p.caps.length := by omega
            simp only [go_sem, qA, qB, qC, qD, qE, qF, qG, qH, chans_getD .bw s.chs i hl']
            repeat (refine ⟨(by first | omega | (simp [-gD]; first | done | omega)), ?_⟩)
            refine dcall_intro (call_ok0 [] (specChanOk_ok (s.chs.getD i default)) ?_ ?_ ?_ ?_ ?_ ?_) ?_ ?_
            any_goals (first | omega | (simp [nilL, nilV]; done) | (simp [nilL, nilV, *]; done))
            try simp only [go_sem, qA, qB, qC, qD, qE, qF, qG, qH]
            repeat (refine ⟨(by first | omega | (simp [-gD]; first | done | omega)), ?_⟩)
            cases h5 : chanOk (s.chs.getD i default)
            · simp only [go_sem, qA, qB, qC, qD, qE, qF, qG, qH, h5]
              repeat (refine ⟨(by first | omega | (simp [-gD]; first | done | omega)), ?_⟩)
              refine ⟨_, Sub.refl _, ?_⟩; simp [FinS, nilL, nilV, oneOr, -List.drop_one]
              simp only [sourceOk]
              rw [range_stop (P := fun i => chanOk (s.chs.getD i default) && decide ((s.chs.getD i default).cap = p.caps.getD i 0)) hl' (by simp only [h5]; rfl)]
              simp
            simp only [go_sem, qA, qB, qC, qD, qE, qF, qG, qH, h5, ints_getD p.caps i hlb, chans_getD .bw s.chs i hl']
            repeat (refine ⟨(by first | omega | (simp [-gD]; first | done | omega)), ?_⟩)
            by_cases h6 : (s.chs.getD i default).cap = p.caps.getD i 0
            case neg =>
              simp only [go_sem, qA, qB, qC, qD, qE, qF, qG, qH, h6]
              repeat (refine ⟨(by first | omega | (simp [-gD]; first | done | omega)), ?_⟩)
              refine ⟨_, Sub.refl _, ?_⟩; simp [FinS, nilL, nilV, oneOr, -List.drop_one]
              simp only [sourceOk]
              rw [range_stop (P := fun i => chanOk (s.chs.getD i default) && decide ((s.chs.getD i default).cap = p.caps.getD i 0)) hl' (by simp only [h5, h6]; rfl)]
              simp
            simp only [go_sem, qA, qB, qC, qD, qE, qF, qG, qH, h6, wrap_succ (i := i) (by omega)]
            repeat (refine ⟨(by first | omega | (simp [-gD]; first | done | omega)), ?_⟩)
            refine back_intro (i + 1) (Sub.shape [] id (by omega) ?_ ?_ ?_ ?_) ?_ ?_
            any_goals (first | omega | (simp [ints_rep]; done))
            exact ⟨hl', range_step hpr (by simp only [h5, h6]; rfl)⟩
          · simp only [decide_eq_false_iff_not] at hc
            have he2 := range_end hpr hc hi
            simp only [go_sem, qA, qB, qC, qD, qE, qF, qG, qH]
            repeat (refine ⟨(by first | omega | (simp [-gD]; first | done | omega)), ?_⟩)
            refine loop_intro (ι := Nat) (fun i => .mk [(2, .ptr 10 0 0), (3, .ptr 11 0 0), (8, .int .i64 i)] [(10, 2, [progC .bw p]), (11, 3, [sourceC .bw s])] 12) (fun i => i ≤ s.tr.length ∧ (s.tr.take i).all (fun x => within x.who 0 (s.ths.length - 1)) = true) (fun i => s.tr.length - i) 0 (by simp) ?_ ?_
            · refine Sub.shape [] id (by omega) ?_ ?_ ?_ ?_ <;> simp [ints_rep]
            · rintro i ⟨hi, hpr⟩
              simp only [go_sem, qA, qB, qC, qD, qE, qF, qG, qH]
              repeat (refine ⟨(by first | omega | (simp [-gD]; first | done | omega)), ?_⟩)
              have hw1 : IntKind.i64.wrap ((s.ths.length : Int) - 1) = (s.ths.length : Int) - 1 := wrap64 (by omega) (by omega)
              refine branch_intro (fun hc => ?_) (fun hc => ?_)
              · simp only [decide_eq_true_eq] at hc
                have hl' : i < s.tr.length := by omega
                simp only [go_sem, qA, qB, qC, qD, qE, qF, qG, qH, notes_getD s.tr i hl', hw1]
                repeat (refine ⟨(by first | omega | (simp [-gD]; first | done | omega)), ?_⟩)
                refine dcall_intro (call_ok0 [] (l1In_ok (s.tr.getD i default).who 0 (s.ths.length - 1)) ?_ ?_ ?_ ?_ ?_ ?_) ?_ ?_
                any_goals (first | omega | (simp [nilL, nilV]; done) | (simp [nilL, nilV, *]; done))
                try simp only [go_sem, qA, qB, qC, qD, qE, qF, qG, qH]
                repeat (refine ⟨(by first | omega | (simp [-gD]; first | done | omega)), ?_⟩)
                cases h6 : within (s.tr.getD i default).who 0 (s.ths.length - 1)
                · simp only [go_sem, qA, qB, qC, qD, qE, qF, qG, qH, h6]
                  repeat (refine ⟨(by first | omega | (simp [-gD]; first | done | omega)), ?_⟩)
                  refine ⟨_, Sub.refl _, ?_⟩; simp [FinS, nilL, nilV, oneOr, -List.drop_one]
                  simp only [sourceOk, notesOk]
                  rw [all_stop (p := fun x : Note => within x.who 0 (s.ths.length - 1)) hl' h6]
                  simp
                simp only [go_sem, qA, qB, qC, qD, qE, qF, qG, qH, h6, wrap_succ (i := i) (by omega)]
                repeat (refine ⟨(by first | omega | (simp [-gD]; first | done | omega)), ?_⟩)
                refine back_intro (i + 1) (Sub.shape [] id (by omega) ?_ ?_ ?_ ?_) ?_ ?_
                any_goals (first | omega | (simp [ints_rep]; done))
                exact ⟨hl', all_step (p := fun x : Note => within x.who 0 (s.ths.length - 1)) hpr hl' h6⟩
              · simp only [decide_eq_false_iff_not] at hc
                have he3 := all_end hpr hc
                simp only [go_sem, qA, qB, qC, qD, qE, qF, qG, qH]
                repeat (refine ⟨(by first | omega | (simp [-gD]; first | done | omega)), ?_⟩)
                refine ⟨_, Sub.refl _, ?_⟩; simp [FinS, nilL, nilV, oneOr, -List.drop_one]
                have e1 : s.ths.length = p.bods.length := by omega
                have e2 : s.chs.length = p.caps.length := by omega
                have e3 : (s.tr.length : Int) ≤ 4000 := by omega
                simp only [sourceOk, notesOk]
                rw [he1, he2, he3, h]
                simp [e1, e2, e3]

def ins (p : Prog) (s : Source) (i : Nat) : Ins := (p.bods.getD i []).getD (s.ths.getD i default).at_.toNat default

/-- What holds of a thread of a right source. -/
structure At (p : Prog) (s : Source) (i : Nat) : Prop where
  hi : i < s.ths.length
  hb : i < p.bods.length
  regs : (s.ths.getD i default).regs.length = 4
  at0 : 0 ≤ (s.ths.getD i default).at_
  at1 : (s.ths.getD i default).at_.toNat < (p.bods.getD i []).length
  len : (p.bods.getD i []).length ≤ 24
  r0 : 0 ≤ (ins p s i).r
  r1 : (ins p s i).r.toNat < 4
  a0 : 0 ≤ (ins p s i).a
  a1 : (ins p s i).a.toNat < 4
  b0 : 0 ≤ (ins p s i).b
  b1 : (ins p s i).b.toNat < 4
  ch : 5 ≤ (ins p s i).op → (ins p s i).op ≤ 9 → 0 ≤ (ins p s i).n ∧ (ins p s i).n.toNat < s.chs.length
  jm : (ins p s i).op = 11 ∨ (ins p s i).op = 12 → 0 ≤ (ins p s i).n ∧ (ins p s i).n.toNat < (p.bods.getD i []).length
  op : 1 ≤ (ins p s i).op ∧ (ins p s i).op ≤ 13

theorem insOk_ch {x : Ins} {pl ch : Int} (h : insOk x pl ch = true) (h5 : 5 ≤ x.op) (h9 : x.op ≤ 9) : 0 ≤ x.n ∧ x.n < ch := by
  rw [← insOkF_eq] at h
  simp only [insOkF, Bool.and_eq_true] at h
  have h2 := h.2
  rw [if_neg (by omega), if_neg (by omega)] at h2
  split at h2
  · simp at h2
  · simp only [Bool.or_eq_true, Bool.not_eq_true', within_iff] at h2
    rcases h2 with h2 | h2
    · rw [within_eq] at h2
      simp at h2
      omega
    · omega
theorem insOk_jm {x : Ins} {pl ch : Int} (h : insOk x pl ch = true) (h5 : x.op = 11 ∨ x.op = 12) : 0 ≤ x.n ∧ x.n < pl := by
  rw [← insOkF_eq] at h
  simp only [insOkF, Bool.and_eq_true] at h
  have h2 := h.2
  rw [if_neg (by omega), if_pos h5, within_iff] at h2
  omega
theorem insOk_op {x : Ins} {pl ch : Int} (h : insOk x pl ch = true) : within x.op 1 13 = true ∧ within x.r 0 3 = true ∧ within x.a 0 3 = true ∧ within x.b 0 3 = true := by
  rw [← insOkF_eq] at h
  simp only [insOkF, Bool.and_eq_true] at h
  exact ⟨h.1.1.1.1.1.2, h.1.1.1.2, h.1.1.2, h.1.2⟩

theorem at_of {p : Prog} {s : Source} (h : sourceOk p s = true) {i : Nat} (hi : i < s.ths.length) : At p s i := by
  simp only [sourceOk, Bool.and_eq_true, decide_eq_true_eq] at h
  obtain ⟨⟨⟨⟨⟨h1, h2⟩, h3⟩, _⟩, h5⟩, _⟩ := h
  have ht := List.all_eq_true.1 h5 i (List.mem_range.2 hi)
  simp only [threadOk, Bool.and_eq_true, decide_eq_true_eq, within_iff] at ht
  have hb : i < p.bods.length := by omega
  simp only [progOk, Bool.and_eq_true] at h1
  have hbody := List.all_eq_true.1 h1.1.1.1 _ (getD_mem p.bods i [] hb)
  simp only [bodyOk, Bool.and_eq_true, within_iff] at hbody
  have hat : (s.ths.getD i default).at_.toNat < (p.bods.getD i []).length := by omega
  have hx : insOk (ins p s i) _ _ = true := List.all_eq_true.1 hbody.1.2 _ (getD_mem (p.bods.getD i []) _ default hat)
  obtain ⟨o1, o2, o3, o4⟩ := insOk_op hx
  rw [within_iff] at o1 o2 o3 o4
  exact {
    hi := hi, hb := hb, regs := by omega, at0 := by omega, at1 := hat, len := by omega
    r0 := by omega, r1 := by omega, a0 := by omega, a1 := by omega, b0 := by omega, b1 := by omega
    ch := fun a b => by have := insOk_ch hx a b; omega
    jm := fun a => by have := insOk_jm hx a; omega
    op := by omega }

def sourceCode (p : Prog) (s : Source) (who : Int) : Int :=
  if within who 0 (s.ths.length - 1) = false then 2
  else if ¬ (s.ths.getD who.toNat default).st = 0 ∨ ((ins p s who.toNat).op = 10 ∧ (s.tr.length : Int) = 4000) then 3
  else if ¬ (ins p s who.toNat).op = 5 ∧ ¬ (ins p s who.toNat).op = 6 then 0
  else if (s.chs.getD (ins p s who.toNat).n.toNat default).closed = false ∧ (((ins p s who.toNat).op = 5 ∧ ((s.chs.getD (ins p s who.toNat).n.toNat default).list.length : Int) = (s.chs.getD (ins p s who.toNat).n.toNat default).cap) ∨ ((ins p s who.toNat).op = 6 ∧ ((s.chs.getD (ins p s who.toNat).n.toNat default).list.length : Int) = 0)) then 4
  else 0

set_option maxHeartbeats 4000000 in
theorem sourceCode_ok (p : Prog) (s : Source) (who : Int) (hp : SmallP p) (hs : Small s) (h : sourceOk p s = true) : CallOk Try.prog num 41 [.agg (progC .bw p), .fptr .bw (sourceC .bw s) 0, .int .i64 who] [] (.int .i64 (sourceCode p s who)) := by
  obtain ⟨hs1, hs2, hs3, hs4, hs5⟩ := hs
  refine enter (m := m41) (f := 41) (fn := Try.f180) Try.func180 (by kernel_rfl) rfl c41 rfl (by simp [Try.f180]) (by simp [bnds, bnd, nf_sl, nf_int, nf_bool, nf_str, ints_bnd]) (fun _ _ h => by simp [preH, look] at h) ?_
  unfold m41
  have hw1 : IntKind.i64.wrap ((s.ths.length : Int) - 1) = (s.ths.length : Int) - 1 := wrap64 (by omega) (by omega)
  simp only [go_sem, qA, qB, qC, qD, qE, qF, qG, qH, hw1]
  repeat (refine ⟨(by first | omega | (simp [-gD]; first | done | omega)), ?_⟩)
  refine calls_intro (call_ok0 [] (within_ok who 0 (s.ths.length - 1)) ?_ ?_ ?_ ?_ ?_ ?_) ?_
  any_goals (first | omega | (simp [nilL, nilV]; done) | (simp [nilL, nilV, *]; done))
  try simp only [go_sem, qA, qB, qC, qD, qE, qF, qG, qH]
  repeat (refine ⟨(by first | omega | (simp [-gD]; first | done | omega)), ?_⟩)
  cases hw : within who 0 (s.ths.length - 1)
  · simp only [go_sem, qA, qB, qC, qD, qE, qF, qG, qH, hw]
    repeat (refine ⟨(by first | omega | (simp [-gD]; first | done | omega)), ?_⟩)
    refine ⟨_, Sub.refl _, ?_⟩; simp [FinS, nilL, nilV, oneOr, -List.drop_one]
    simp [sourceCode, hw]
  have hw' := hw
  rw [within_iff] at hw'
  obtain ⟨i, rfl⟩ := Int.eq_ofNat_of_zero_le hw'.1
  have ha := at_of h (i := i) (by omega)
  have e1 := ha.at0
  have e2 := ha.at1
  have e3 := ha.hb
  have hch := ha.ch
  have hx : (p.bods.getD i []).getD (s.ths.getD i default).at_.toNat default = ins p s i := rfl
  simp only [go_sem, qA, qB, qC, qD, qE, qF, qG, qH, hw, Int.toNat_natCast, threads_getD .bw s.ths i ha.hi, bodies_getD .bw p.bods i ha.hb, inss_getD (p.bods.getD i []) (s.ths.getD i default).at_.toNat ha.at1, hx]
  repeat (refine ⟨(by first | omega | (simp [-gD]; first | done | omega)), ?_⟩)
  by_cases h5 : (ins p s i).op = 5 ∨ (ins p s i).op = 6
  · obtain ⟨n0, n1⟩ := hch (by omega) (by omega)
    rcases h5 with h5 | h5
    · simp only [go_sem, qA, qB, qC, qD, qE, qF, qG, qH, h5]
      repeat (refine ⟨(by first | omega | (simp [-gD]; first | done | omega)), ?_⟩)
      repeat' (first
        | (simp only [go_sem, qA, qB, qC, qD, qE, qF, qG, qH, h5, chans_getD .bw s.chs (ins p s i).n.toNat n1])
        | (refine branch_intro (fun hc => ?_) (fun hc => ?_) <;> ((try simp only [Bool.not_eq_true', Bool.not_eq_false', ne_eq, Bool.not_eq_true, Bool.not_eq_false] at hc) <;> (try simp only [hc])))
        | (refine maybe_intro (fun hc => ?_) (fun hc => ?_) <;> ((try simp only [Bool.not_eq_true', Bool.not_eq_false', ne_eq, Bool.not_eq_true, Bool.not_eq_false] at hc) <;> (try simp only [hc])))
        | (refine dmaybe_intro (fun hc => ?_) (fun hc => ?_) <;> ((try simp only [Bool.not_eq_true', Bool.not_eq_false', ne_eq, Bool.not_eq_true, Bool.not_eq_false] at hc) <;> (try simp only [hc])))
        | (refine ⟨by first | omega | (simp; done), ?_⟩)
        | fail)
      all_goals (refine ⟨_, Sub.refl _, ?_⟩; simp [FinS, nilL, nilV, oneOr, -List.drop_one])
      all_goals (try (simp_all [sourceCode]; done))
    · simp only [go_sem, qA, qB, qC, qD, qE, qF, qG, qH, h5]
      repeat (refine ⟨(by first | omega | (simp [-gD]; first | done | omega)), ?_⟩)
      repeat' (first
        | (simp only [go_sem, qA, qB, qC, qD, qE, qF, qG, qH, h5, chans_getD .bw s.chs (ins p s i).n.toNat n1])
        | (refine branch_intro (fun hc => ?_) (fun hc => ?_) <;> ((try simp only [Bool.not_eq_true', Bool.not_eq_false', ne_eq, Bool.not_eq_true, Bool.not_eq_false] at hc) <;> (try simp only [hc])))
        | (refine maybe_intro (fun hc => ?_) (fun hc => ?_) <;> ((try simp only [Bool.not_eq_true', Bool.not_eq_false', ne_eq, Bool.not_eq_true, Bool.not_eq_false] at hc) <;> (try simp only [hc])))
        | (refine dmaybe_intro (fun hc => ?_) (fun hc => ?_) <;> ((try simp only [Bool.not_eq_true', Bool.not_eq_false', ne_eq, Bool.not_eq_true, Bool.not_eq_false] at hc) <;> (try simp only [hc])))
        | (refine ⟨by first | omega | (simp; done), ?_⟩)
        | fail)
      all_goals (refine ⟨_, Sub.refl _, ?_⟩; simp [FinS, nilL, nilV, oneOr, -List.drop_one])
      all_goals (try (simp_all [sourceCode]; done))
  · have h51 : ¬ (ins p s i).op = 5 := fun h => h5 (.inl h)
    have h61 : ¬ (ins p s i).op = 6 := fun h => h5 (.inr h)
    repeat' (first
      | (simp only [go_sem, qA, qB, qC, qD, qE, qF, qG, qH, h51, h61])
      | (refine branch_intro (fun hc => ?_) (fun hc => ?_) <;> ((try simp only [Bool.not_eq_true', Bool.not_eq_false', ne_eq, Bool.not_eq_true, Bool.not_eq_false] at hc) <;> (try simp only [hc])))
      | (refine maybe_intro (fun hc => ?_) (fun hc => ?_) <;> ((try simp only [Bool.not_eq_true', Bool.not_eq_false', ne_eq, Bool.not_eq_true, Bool.not_eq_false] at hc) <;> (try simp only [hc])))
      | (refine dmaybe_intro (fun hc => ?_) (fun hc => ?_) <;> ((try simp only [Bool.not_eq_true', Bool.not_eq_false', ne_eq, Bool.not_eq_true, Bool.not_eq_false] at hc) <;> (try simp only [hc])))
      | (refine ⟨by first | omega | (simp; done), ?_⟩)
      | fail)
    all_goals (refine ⟨_, Sub.refl _, ?_⟩; simp [FinS, nilL, nilV, oneOr, -List.drop_one])
    all_goals (try (simp_all [sourceCode]; done))


end Go.Sep
