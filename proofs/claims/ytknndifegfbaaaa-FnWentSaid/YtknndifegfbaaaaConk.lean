/- Contracts of functions. -/
import Derived.Test.YtknndifegfbaaaaConi
import Derived.Test.YtknndifegfbaaaaConj
namespace Go.Sep
open Go.Proofs
set_option linter.unusedSimpArgs false
set_option linter.unusedVariables false
set_option maxRecDepth 100000
open Nat renaming reduceAdd → qA, reduceMul → qB, reduceEqDiff → qC, reduceBEq → qD
open Int renaming reduceToNat → qE, reduceEq → qF, reduceLT → qG, reduceLE → qH
open List renaming getD_eq_getElem?_getD → gD
attribute [local go_sem] paramT preH e_seq e_reg e_block e_loop e_ops e_skip e_ret e_cond e_guard e_call e_ops1 plan next_ok next_some Arg.ev lookT putD putT if_false if_true app1 put del ints_length binA Option.map_some Option.bind_some look Int.toNat_natCast e_blk e_stop e_exit exitIt true_and and_true maybe_do maybe_tf maybe_ft branch_true branch_false Bool.false_eq_true bnd? cellsOf openL List.isEmpty_nil List.isEmpty_cons fresh List.map_nil List.map_cons List.cons_append List.nil_append splice List.take_zero List.drop_zero List.take_succ_cons List.getD_cons_zero List.length_cons List.length_nil List.drop_succ_cons List.drop_nil List.append_nil List.all_cons List.all_nil cellOk Bool.and_self Nat.zero_add e_dreg e_done e_take e_only1 e_onlyc e_takeg e_onlyg e_both dnext_some dnext_ok dmaybe_do rdTake pdTake addP rdOnly pdOnly isRead alive needs undep apart List.filter_nil List.filter_cons Option.isSome_some Option.isSome_none List.contains_nil List.contains_cons List.forall_mem_cons List.mem_cons List.not_mem_nil false_implies implies_true forall_const forall_eq_or_imp forall_eq or_false beq_self_eq_true Bool.or_false Bool.false_or Bool.true_or Bool.or_true Bool.not_true Bool.not_false xv xo xg xr xi xz List.set_set maybe_skip dmaybe_skip dmaybe_tf dmaybe_ft fillR fillROk fillA fillOk srcA eqC bytesOf ints_append List.replicate_zero decide_true decide_false ints_set nil_bind List.replicate_succ Int.toNat_zero Int.toNat_one eq_self Bool.and_true Bool.true_and Bool.and_false Bool.false_and List.set_cons_zero List.set_cons_succ List.getD_cons_succ rnm ixm renV renL openV openVs cond_true cond_false ints_drop ints_take drop_all
attribute [local simp] hand bwT bwC bwL ints_bw ints_take lookT Arg.ev handOk bwOk bwOks bwTs nf_sl nf_int nf_bool ints_bnd okV okL nb nbs nbr ints_nb look ints_length bnd bnds bndr renV renL ixm rnm apart needs rdOnly pdOnly fresh openV openVs resAV allP giveL giveV postH del isOwn partR ints_drop drop_all shp okB okBs ints_free
attribute [local go_sem] inss_length inss_append inss_drop inss_take inss_set insC bodies_length bodies_append bodies_drop bodies_take bodies_set intss_length intss_append intss_drop intss_take intss_set chans_length chans_append chans_drop chans_take chans_set chanC notes_length notes_append notes_drop notes_take notes_set noteC threads_length threads_append threads_drop threads_take threads_set threadC wents_length wents_append wents_drop wents_take wents_set wentC progs_length progs_append progs_drop progs_take progs_set progC sources_length sources_append sources_drop sources_take sources_set sourceC bys_length bys_append bys_drop bys_take bys_set
attribute [local simp] nilL_cons nilL_nil nilV_agg nilV_tup nilV_nilsl nilV_nil nilV_sl nilV_int nilV_bool nilV_str nilV_ns nilV_ptr nilRs_cons nilRs_nil free_nil free_cons inss_nil inss_bw inss_bnd inss_nb inss_length inss_take inss_drop inss_free bodies_nil bodies_bw bodies_bnd bodies_nb bodies_length bodies_take bodies_drop bodies_free intss_nil intss_bw intss_bnd intss_nb intss_length intss_take intss_drop intss_free chans_nil chans_bw chans_bnd chans_nb chans_length chans_take chans_drop chans_free notes_nil notes_bw notes_bnd notes_nb notes_length notes_take notes_drop notes_free threads_nil threads_bw threads_bnd threads_nb threads_length threads_take threads_drop threads_free wents_nil wents_bw wents_bnd wents_nb wents_length wents_take wents_drop wents_free progs_nil progs_bw progs_bnd progs_nb progs_length progs_take progs_drop progs_free sources_nil sources_bw sources_bnd sources_nb sources_length sources_take sources_drop sources_free bys_nil bys_bw bys_bnd bys_nb bys_length bys_take bys_drop bys_free curC insC chanC noteC threadC wentC progC sourceC

theorem sourceOk_iff (p : Prog) (s : Source) : sourceOk p s = true ↔ progOk p = true ∧ s.ths.length = p.bods.length ∧ s.chs.length = p.caps.length ∧ notesOk s.tr s.ths.length = true ∧
    (∀ i, i < s.ths.length → threadOk (p.bods.getD i []) (s.ths.getD i default) = true) ∧ (∀ j, j < s.chs.length → chanOk (s.chs.getD j default) = true ∧ (s.chs.getD j default).cap = p.caps.getD j 0) := by
  simp only [sourceOk, Bool.and_eq_true, decide_eq_true_eq, List.all_eq_true, List.mem_range]
  constructor
  · rintro ⟨⟨⟨⟨⟨a, b⟩, c⟩, d⟩, e⟩, f⟩
    exact ⟨a, b, c, d, e, f⟩
  · rintro ⟨a, b, c, d, e, f⟩
    exact ⟨⟨⟨⟨⟨a, b⟩, c⟩, d⟩, e⟩, f⟩

theorem getD_set_of {α : Type} (l : List α) (i j : Nat) (x d : α) (h : i < l.length) : (l.set i x).getD j d = if j = i then x else l.getD j d := by
  simp only [List.getD_eq_getElem?_getD, List.getElem?_set]
  by_cases hij : i = j
  · subst hij
    simp [h]
  · simp [hij, Ne.symm hij]

theorem ok_set_th {p : Prog} {s : Source} {i : Nat} {t : Thread} (h : sourceOk p s = true) (hi : i < s.ths.length) (ht : threadOk (p.bods.getD i []) t = true) : sourceOk p ⟨s.ths.set i t, s.chs, s.tr⟩ = true := by
  rw [sourceOk_iff] at h ⊢
  obtain ⟨a, b, c, d, e, f⟩ := h
  refine ⟨a, by simpa using b, c, by simpa using d, fun j hj => ?_, f⟩
  simp only at hj ⊢
  rw [getD_set_of _ _ _ _ _ hi]
  split
  · rename_i hji; rw [hji]; exact ht
  · exact e j (by simpa using hj)

theorem ok_set_ch {p : Prog} {s : Source} {j : Nat} {c' : Chan} (h : sourceOk p s = true) (hj : j < s.chs.length) (hc : chanOk c' = true) (hcap : c'.cap = (s.chs.getD j default).cap) : sourceOk p ⟨s.ths, s.chs.set j c', s.tr⟩ = true := by
  rw [sourceOk_iff] at h ⊢
  obtain ⟨a, b, c, d, e, f⟩ := h
  refine ⟨a, b, by simpa using c, d, e, fun k hk => ?_⟩
  simp only at hk ⊢
  rw [getD_set_of _ _ _ _ _ hj]
  split
  · rename_i hkj; rw [hkj]; exact ⟨hc, by rw [hcap]; exact (f j hj).2⟩
  · exact f k (by simpa using hk)

theorem ok_add {p : Prog} {s : Source} {n : Note} (h : sourceOk p s = true) (hn : 0 ≤ n.who ∧ n.who < s.ths.length) (hl : s.tr.length < 4000) : sourceOk p ⟨s.ths, s.chs, s.tr ++ [n]⟩ = true := by
  rw [sourceOk_iff] at h ⊢
  obtain ⟨a, b, c, d, e, f⟩ := h
  refine ⟨a, b, c, ?_, e, f⟩
  simp only [notesOk, Bool.and_eq_true, decide_eq_true_eq, List.all_append, List.all_cons, List.all_nil, Bool.and_true] at d ⊢
  refine ⟨⟨d.1, by rw [within_iff]; omega⟩, by simp; omega⟩

theorem ok_goTo {p : Prog} {s : Source} {i : Nat} {t : Thread} {ok : Bool} {next : Int} (h : sourceOk p s = true) (hi : i < s.ths.length) (hr : t.regs.length = 4) (hst : 0 ≤ t.st ∧ t.st ≤ 2) (hat : 0 ≤ t.at_ ∧ t.at_ < (p.bods.getD i []).length) (hn : 0 ≤ next) : sourceOk p (goTo p s i t ok next) = true := by
  unfold goTo
  split
  · exact ok_set_th h hi (by simp only [threadOk, Bool.and_eq_true, decide_eq_true_eq, within_iff]; omega)
  · rename_i hh
    have : next < (p.bods.getD i []).length := by
      rcases Int.lt_or_le next (p.bods.getD i []).length with h1 | h1
      · exact h1
      · exact absurd (.inr h1) hh
    exact ok_set_th h hi (by simp only [threadOk, Bool.and_eq_true, decide_eq_true_eq, within_iff]; omega)

theorem chanSend_ok' {c : Chan} {v : Int} (h : chanOk c = true) : chanOk (chanSend c v).1 = true ∧ (chanSend c v).1.cap = c.cap := by
  have h2 := chanOk_cap h
  rw [codes_send c v h]
  split
  · exact ⟨h, rfl⟩
  · split
    · exact ⟨h, rfl⟩
    · refine ⟨?_, rfl⟩
      simp only [chanOk, Bool.and_eq_true, within_iff, decide_eq_true_eq] at h ⊢
      refine ⟨h.1, ?_⟩
      simp
      omega
theorem chanTake_ok' {c : Chan} (h : chanOk c = true) : chanOk (chanTake c).1 = true ∧ (chanTake c).1.cap = c.cap := by
  unfold chanTake
  rw [if_neg (by rw [h]; simp)]
  split
  · refine ⟨?_, rfl⟩
    simp only [chanOk, Bool.and_eq_true, within_iff, decide_eq_true_eq] at h ⊢
    refine ⟨h.1, ?_⟩
    simp only [List.length_drop]
    omega
  · split <;> exact ⟨h, rfl⟩
theorem chanClose_ok' {c : Chan} (h : chanOk c = true) : chanOk (chanClose c).1 = true ∧ (chanClose c).1.cap = c.cap := by
  unfold chanClose
  split
  · exact ⟨h, rfl⟩
  · exact ⟨h, rfl⟩

theorem chanStep_ok' {t : Thread} {c : Chan} {x : Ins} (h : chanOk c = true) : chanOk (chanStep t c x).2.1 = true ∧ (chanStep t c x).2.1.cap = c.cap := by
  unfold chanStep
  split
  · exact chanSend_ok' h
  · split
    · exact chanTake_ok' h
    · exact chanClose_ok' h
theorem chanStep_th (t : Thread) (c : Chan) (x : Ins) : (chanStep t c x).1.regs.length = t.regs.length ∧ (chanStep t c x).1.st = t.st ∧ (chanStep t c x).1.at_ = t.at_ := by
  unfold chanStep
  split
  · simp only
    split <;> simp [setReg]
  · split
    · simp only
      split <;> simp [setReg]
    · exact ⟨rfl, rfl, rfl⟩

theorem sourceOk_step {p : Prog} {s : Source} {i : Nat} (h : sourceOk p s = true) (hi : i < s.ths.length) (ht : (ins p s i).op = 10 → s.tr.length < 4000) : sourceOk p (doStep p s i) = true := by
  have ha := at_of h hi
  have e1 := ha.at0
  have e2 := ha.at1
  have e4 := ha.regs
  have hth := ((sourceOk_iff p s).1 h).2.2.2.2.1 i hi
  simp only [threadOk, Bool.and_eq_true, decide_eq_true_eq, within_iff] at hth
  obtain ⟨⟨_, hst⟩, hat⟩ := hth
  have hat' : 0 ≤ (s.ths.getD i default).at_ ∧ (s.ths.getD i default).at_ < (p.bods.getD i []).length := by omega
  have hself : ∀ r v, (setReg (s.ths.getD i default) r v).regs.length = 4 := fun r v => by simp only [setReg, List.length_set]; exact e4
  unfold doStep
  split
  · exact ok_goTo h hi (hself _ _) hst hat' (by omega)
  split
  · exact ok_goTo h hi (hself _ _) hst hat' (by omega)
  split
  · rename_i h10
    exact ok_goTo (ok_add h ⟨by simp, by simp; exact hi⟩ (ht h10)) hi e4 hst hat' (by omega)
  split
  · rename_i h11
    exact ok_goTo h hi e4 hst hat' (ha.jm (.inl h11)).1
  split
  · rename_i h12
    exact ok_goTo h hi e4 hst hat' (by have := (ha.jm (.inr h12)).1; split <;> omega)
  split
  · exact ok_set_th h hi (by simp only [threadOk, Bool.and_eq_true, decide_eq_true_eq, within_iff]; omega)
  · rename_i h1 h2 h10 h11 h12 h13
    obtain ⟨n0, n1⟩ := ha.ch (by have := ha.op; omega) (by have := ha.op; omega)
    have hc := chanAt_ok h n1
    obtain ⟨q1, q2⟩ := chanStep_ok' (t := s.ths.getD i default) (x := ins p s i) hc
    obtain ⟨r1, r2, r3⟩ := chanStep_th (s.ths.getD i default) (s.chs.getD (ins p s i).n.toNat default) (ins p s i)
    exact ok_goTo (ok_set_ch h n1 q1 q2) hi (by rw [r1]; exact e4) (by rw [r2]; exact hst) (by rw [r3]; exact hat') (by omega)

theorem small_of {p : Prog} {s : Source} (h : sourceOk p s = true) : Small s := by
  have hn := notesOk_len h
  rw [sourceOk_iff] at h
  obtain ⟨a, b, c, d, e, f⟩ := h
  simp only [progOk, Bool.and_eq_true, decide_eq_true_eq, within_iff] at a
  refine ⟨by omega, by omega, by omega, fun t ht => ?_, fun c' hc' => ?_⟩
  · obtain ⟨i, hi, rfl⟩ := List.getElem_of_mem ht
    have := e i hi
    simp only [threadOk, Bool.and_eq_true, decide_eq_true_eq] at this
    have hg : s.ths.getD i default = s.ths[i] := by simp [List.getD_eq_getElem?_getD, hi]
    rw [hg] at this
    omega
  · obtain ⟨i, hi, rfl⟩ := List.getElem_of_mem hc'
    have := chanOk_cap (f i hi).1
    have h2 := (f i hi).1
    simp only [chanOk, Bool.and_eq_true, within_iff] at h2
    have hg : s.chs.getD i default = s.chs[i] := by simp [List.getD_eq_getElem?_getD, hi]
    rw [hg] at this h2
    omega

def l27F (ws : List Went) (x : Ins) (a b : List Int) : List Went :=
  if within x.op 5 8 = false then ws
  else if a.length < b.length then ws.set x.n.toNat ⟨(ws.getD x.n.toNat default).sent ++ [b.getD (b.length - 1) 0], (ws.getD x.n.toNat default).taken⟩
  else if b.length < a.length then ws.set x.n.toNat ⟨(ws.getD x.n.toNat default).sent, (ws.getD x.n.toNat default).taken ++ [a.getD 0 0]⟩
  else ws

set_option maxHeartbeats 2000000 in
theorem l27One_ok (p : Prog) (ws : List Went) (x : Ins) (s s' : Source) (hx : 5 ≤ x.op → x.op ≤ 8 → 0 ≤ x.n ∧ x.n.toNat < ws.length ∧ x.n.toNat < s.chs.length ∧ x.n.toNat < s'.chs.length)
    (hl : ∀ w ∈ ws, w.sent.length < 2 ^ 40 ∧ w.taken.length < 2 ^ 40) (hb : ∀ c ∈ s'.chs, c.list.length < 2 ^ 40) :
    CallOk Try.prog num 47 [.agg (progC .bw p), .ns 0 0 ws.length, .agg (insC x), .agg (sourceC .bw s), .agg (sourceC .bw s')] [(0, some (2, wents .own ws), none)]
      (.sl .own 2 (wents .own (l27F ws x (s.chs.getD x.n.toNat default).list (s'.chs.getD x.n.toNat default).list))) := by
  refine enter (m := m47) (f := 47) (fn := Try.f46) Try.func46 (by kernel_rfl) rfl c47 rfl (by simp [Try.f46]) (by simp [bnds, bnd, nf_sl, nf_int, nf_bool, nf_str, ints_bnd]) (by first | (simp [preH, hb_nil, hb_cons, ints_bnd]; done) | exact hb_cons _ _ _ _ ((hb_nil _).2 trivial) (by decide) (by simp [ints_bnd, bndr, bnds, bnd])) ?_
  unfold m47
  simp only [go_sem, qA, qB, qC, qD, qE, qF, qG, qH]
  repeat (refine ⟨(by first | omega | (simp [-gD]; first | done | omega)), ?_⟩)
  refine calls_intro (call_ok0 [] (l1In_ok x.op 5 8) ?_ ?_ ?_ ?_ ?_ ?_) ?_
  any_goals (first | omega | (simp [nilL, nilV]; done) | (simp [nilL, nilV, *]; done))
  try simp only [go_sem, qA, qB, qC, qD, qE, qF, qG, qH]
  repeat (refine ⟨(by first | omega | (simp [-gD]; first | done | omega)), ?_⟩)
  cases hw : within x.op 5 8
  · simp only [go_sem, qA, qB, qC, qD, qE, qF, qG, qH, hw]
    repeat (refine ⟨(by first | omega | (simp [-gD]; first | done | omega)), ?_⟩)
    apply fin_one
    · exact Sub.refl _
    · simp [-List.drop_one, -gD, l27F, hw] <;> (first | rfl | exact ⟨rfl, rfl⟩ | exact ⟨rfl, rfl, rfl⟩ | skip)
  have hw' := hw
  rw [within_iff] at hw'
  obtain ⟨n0, n1, n2, n3⟩ := hx hw'.1 hw'.2
  obtain ⟨b1, b2⟩ := hl _ (getD_mem ws _ default n1)
  have b3 := hb _ (getD_mem s'.chs _ default n3)
  have gw : ∀ r, ((wents .own ws).set x.n.toNat r).getD x.n.toNat [] = r := fun r => getD_set_self _ _ _ _ (by rw [wents_length]; exact n1)
  simp only [go_sem, qA, qB, qC, qD, qE, qF, qG, qH, hw, chans_getD .bw s.chs x.n.toNat n2, chans_getD .bw s'.chs x.n.toNat n3]
  repeat (refine ⟨(by first | omega | (simp [-gD]; first | done | omega)), ?_⟩)
  by_cases h1 : ((s.chs.getD x.n.toNat default).list.length : Int) < (s'.chs.getD x.n.toNat default).list.length
  · have h1' : (s.chs.getD x.n.toNat default).list.length < (s'.chs.getD x.n.toNat default).list.length := by omega
    have h2 : ¬ ((s'.chs.getD x.n.toNat default).list.length : Int) < (s.chs.getD x.n.toNat default).list.length := by omega
    have hwr : IntKind.i64.wrap (((s'.chs.getD x.n.toNat default).list.length : Int) - 1) = ((s'.chs.getD x.n.toNat default).list.length : Int) - 1 := wrap64 (by omega) (by omega)
    have ht : Int.toNat (((s'.chs.getD x.n.toNat default).list.length : Int) - 1) = (s'.chs.getD x.n.toNat default).list.length - 1 := by omega
    simp only [go_sem, qA, qB, qC, qD, qE, qF, qG, qH, h1, wents_getD .own ws x.n.toNat n1, gw, hwr, ht, ints_getD (s'.chs.getD x.n.toNat default).list ((s'.chs.getD x.n.toNat default).list.length - 1) (by omega)]
    repeat (refine ⟨(by first | omega | (simp [-gD]; first | done | omega)), ?_⟩)
    try simp only [go_sem, qA, qB, qC, qD, qE, qF, qG, qH, h2]
    repeat (refine ⟨(by first | omega | (simp [-gD]; first | done | omega)), ?_⟩)
    apply fin_one
    · refine Sub.trans (Sub.foldAt 0 0 16 rfl (by simp [-gD] <;> omega) rfl (by decide) (by decide) rfl (by simp <;> omega)) ?_
      simp only [fS, qA, qC, ints_one, ints_append, wents_set]
      exact Sub.refl _
    · simp [-List.drop_one, -gD, l27F, hw, h1', wents_set, ints_one, ints_append] <;> (first | rfl | exact ⟨rfl, rfl⟩ | exact ⟨rfl, rfl, rfl⟩ | skip)
  · simp only [go_sem, qA, qB, qC, qD, qE, qF, qG, qH, h1]
    repeat (refine ⟨(by first | omega | (simp [-gD]; first | done | omega)), ?_⟩)
    by_cases h2 : ((s'.chs.getD x.n.toNat default).list.length : Int) < (s.chs.getD x.n.toNat default).list.length
    · have h1' : ¬ (s.chs.getD x.n.toNat default).list.length < (s'.chs.getD x.n.toNat default).list.length := by omega
      have h2' : (s'.chs.getD x.n.toNat default).list.length < (s.chs.getD x.n.toNat default).list.length := by omega
      simp only [go_sem, qA, qB, qC, qD, qE, qF, qG, qH, h2, wents_getD .own ws x.n.toNat n1, gw, ints_getD (s.chs.getD x.n.toNat default).list 0 (by omega)]
      repeat (refine ⟨(by first | omega | (simp [-gD]; first | done | omega)), ?_⟩)
      apply fin_one
      · refine Sub.trans (Sub.foldAt 0 1 16 rfl (by simp [-gD] <;> omega) rfl (by decide) (by decide) rfl (by simp <;> omega)) ?_
        simp only [fS, qA, qC, ints_one, ints_append, wents_set]
        exact Sub.refl _
      · simp [-List.drop_one, -gD, l27F, hw, h1', h2', wents_set, ints_one, ints_append] <;> (first | rfl | exact ⟨rfl, rfl⟩ | exact ⟨rfl, rfl, rfl⟩ | skip)
    · have h1' : ¬ (s.chs.getD x.n.toNat default).list.length < (s'.chs.getD x.n.toNat default).list.length := by omega
      have h2' : ¬ (s'.chs.getD x.n.toNat default).list.length < (s.chs.getD x.n.toNat default).list.length := by omega
      simp only [go_sem, qA, qB, qC, qD, qE, qF, qG, qH, h2]
      repeat (refine ⟨(by first | omega | (simp [-gD]; first | done | omega)), ?_⟩)
      apply fin_one
      · exact Sub.refl _
      · simp [-List.drop_one, -gD, l27F, hw, h1', h2'] <;> (first | rfl | exact ⟨rfl, rfl⟩ | exact ⟨rfl, rfl, rfl⟩ | skip)

/-- What went through, step by step. -/
def wentStep (p : Prog) (st : Source × List Went) (who : Int) : Source × List Went :=
  if sourceCode p st.1 who = 0 then (doStep p st.1 who.toNat, l27F st.2 (ins p st.1 who.toNat) (st.1.chs.getD (ins p st.1 who.toNat).n.toNat default).list ((doStep p st.1 who.toNat).chs.getD (ins p st.1 who.toNat).n.toNat default).list) else st
def wentRun (p : Prog) (picks : List Int) : Source × List Went := picks.foldl (wentStep p) ((sourceNew p).1, List.replicate p.caps.length ⟨[], []⟩)
def wentOf (p : Prog) (picks : List Int) : List Went × Bool := if progOk p && decide ((picks.length : Int) ≤ 4000) then ((wentRun p picks).2, true) else ([], false)

theorem nil_wents : ∀ (n : Nat), nilRs (List.replicate n [AV.nil, AV.nil]) (wents .own (List.replicate n ⟨[], []⟩))
  | 0 => by simp [wents]
  | n + 1 => by
    have := nil_wents n
    simp only [List.replicate_succ, wents, List.map_cons] at this ⊢
    exact (nilRs_cons _ _ _ _).2 ⟨by simp [wentC, ints_nil], this⟩

theorem sourceNew_ok {p : Prog} (h : progOk p = true) : sourceOk p (sourceNew p).1 = true := by
  have hp := h
  simp only [progOk, capsOk, Bool.and_eq_true, decide_eq_true_eq] at hp
  obtain ⟨⟨⟨hb, _⟩, hc⟩, _⟩ := hp
  rw [sourceOk_iff]
  simp only [sourceNew, h, if_true]
  refine ⟨?_, ?_, ?_, ?_, fun i hi => ?_, fun j hj => ?_⟩
  any_goals (first | exact h | (simp; done) | (simp [notesOk]; done))
  · have hi' : i < p.bods.length := by simpa using hi
    have hg : (List.replicate p.bods.length thread0).getD i default = thread0 := by simp [List.getD_eq_getElem?_getD, hi']
    have h2 := List.all_eq_true.1 hb _ (getD_mem p.bods i [] hi')
    simp only [bodyOk, Bool.and_eq_true, within_iff] at h2
    rw [hg]
    simp only [threadOk, thread0, Bool.and_eq_true, decide_eq_true_eq, within_iff]
    refine ⟨⟨rfl, by omega⟩, by omega⟩
  · have hj' : j < p.caps.length := by simpa using hj
    have hg : (p.caps.map fun c => (⟨c, [], false⟩ : Chan)).getD j default = ⟨p.caps.getD j 0, [], false⟩ := by simp [List.getD_eq_getElem?_getD, hj']
    rw [hg]
    have h2 := List.all_eq_true.1 hc _ (getD_mem p.caps j 0 hj')
    refine ⟨?_, rfl⟩
    simp only [chanOk, h2, Bool.true_and, decide_eq_true_eq]
    rw [within_iff] at h2
    simp [-List.getD_eq_getElem?_getD]
    omega

theorem smallP_of {p : Prog} (h : progOk p = true) : SmallP p := by
  simp only [progOk, Bool.and_eq_true, decide_eq_true_eq, within_iff] at h
  obtain ⟨⟨⟨hb, h1⟩, _⟩, h2⟩ := h
  refine ⟨by omega, by omega, fun b hb' => ?_⟩
  have := List.all_eq_true.1 hb b hb'
  simp only [bodyOk, Bool.and_eq_true, within_iff] at this
  omega

/-- What holds of a run so far. -/
structure RunOk (p : Prog) (st : Source × List Went) (i : Nat) : Prop where
  ok : sourceOk p st.1 = true
  len : st.2.length = p.caps.length
  small : ∀ w ∈ st.2, w.sent.length ≤ i ∧ w.taken.length ≤ i

theorem l27F_length (ws : List Went) (x : Ins) (a b : List Int) : (l27F ws x a b).length = ws.length := by
  unfold l27F
  split
  · rfl
  · split
    · simp
    · split <;> simp

theorem runOk_step {p : Prog} {st : Source × List Went} {i : Nat} {who : Int} (h : RunOk p st i) : RunOk p (wentStep p st who) (i + 1) := by
  obtain ⟨h1, h2, h3⟩ := h
  unfold wentStep
  split
  · rename_i hc
    obtain ⟨w0, w1⟩ := code_in hc
    refine ⟨sourceOk_step h1 w1 (fun h10 => ?_), by simp only [l27F_length]; exact h2, fun w hw => ?_⟩
    · have hn := notesOk_len h1
      unfold sourceCode at hc
      split at hc
      · simp at hc
      · split at hc
        · simp at hc
        · rename_i hx
          have : ¬ (st.1.tr.length : Int) = 4000 := fun e => hx (.inr ⟨h10, e⟩)
          omega
    · have key : ∀ w ∈ l27F st.2 (ins p st.1 who.toNat) (st.1.chs.getD (ins p st.1 who.toNat).n.toNat default).list ((doStep p st.1 who.toNat).chs.getD (ins p st.1 who.toNat).n.toNat default).list, w.sent.length ≤ i + 1 ∧ w.taken.length ≤ i + 1 := by
        intro w hw
        unfold l27F at hw
        have old : ∀ w ∈ st.2, w.sent.length ≤ i + 1 ∧ w.taken.length ≤ i + 1 := fun w hw => by have := h3 w hw; omega
        have oldg : ((st.2.getD (ins p st.1 who.toNat).n.toNat default).sent.length ≤ i ∧ (st.2.getD (ins p st.1 who.toNat).n.toNat default).taken.length ≤ i) := by
          by_cases hl : (ins p st.1 who.toNat).n.toNat < st.2.length
          · exact h3 _ (getD_mem _ _ _ hl)
          · have : st.2.getD (ins p st.1 who.toNat).n.toNat default = default := by simp [List.getD_eq_getElem?_getD, List.getElem?_eq_none (show st.2.length ≤ (ins p st.1 who.toNat).n.toNat by omega)]
            rw [this]
            exact ⟨Nat.zero_le _, Nat.zero_le _⟩
        split at hw
        · exact old w hw
        · split at hw
          · rcases List.mem_or_eq_of_mem_set hw with hw | rfl
            · exact old w hw
            · simp only [List.length_append, List.length_cons, List.length_nil]; omega
          · split at hw
            · rcases List.mem_or_eq_of_mem_set hw with hw | rfl
              · exact old w hw
              · simp only [List.length_append, List.length_cons, List.length_nil]; omega
            · exact old w hw
      exact key w hw
  · exact ⟨h1, h2, fun w hw => by have := h3 w hw; omega⟩

theorem runOk {p : Prog} (h : progOk p = true) (picks : List Int) : ∀ i, i ≤ picks.length → RunOk p ((picks.take i).foldl (wentStep p) ((sourceNew p).1, List.replicate p.caps.length ⟨[], []⟩)) i
  | 0, _ => ⟨sourceNew_ok h, by simp, fun w hw => by simp at hw; rw [hw.2]; exact ⟨Nat.le_refl _, Nat.le_refl _⟩⟩
  | i + 1, hi => by
    rw [List.take_succ_eq_append_getElem (by omega), List.foldl_append]
    exact runOk_step (runOk h picks i (by omega))

theorem take_fold (p : Prog) (picks : List Int) (i : Nat) (h : i < picks.length) (st : Source × List Went) : (picks.take (i + 1)).foldl (wentStep p) st = wentStep p ((picks.take i).foldl (wentStep p) st) (picks.getD i 0) := by
  rw [take_snoc picks 0 i h, List.foldl_append]
  rfl

set_option maxHeartbeats 4000000 in
theorem specWentOf_ok (p : Prog) (picks : List Int) (h1 : p.caps.length < 2 ^ 40) (h2 : p.bods.length < 2 ^ 40) (h3 : ∀ b ∈ p.bods, b.length < 2 ^ 40) (h4 : picks.length < 2 ^ 40) :
    CallOk Try.prog num 22 [.agg (progC .bw p), .sl .bw 1 (ints picks)] [] (.tup [.sl .own 2 (wents .own (wentOf p picks).1), .bool (wentOf p picks).2]) := by
  refine enter (m := m22) (f := 22) (fn := Try.f22) Try.func22 (by kernel_rfl) rfl c22 rfl (by simp [Try.f22]) (by simp [bnds, bnd, nf_sl, nf_int, nf_bool, nf_str, ints_bnd]) (fun _ _ h => by simp [preH, look] at h) ?_
  unfold m22
  simp only [go_sem, qA, qB, qC, qD, qE, qF, qG, qH]
  repeat (refine ⟨(by first | omega | (simp [-gD]; first | done | omega)), ?_⟩)
  refine calls_intro (call_ok0 [] (specSourceNew_ok p h1 h2 (fun b hb => Nat.lt_trans (h3 b hb) (by decide))) ?_ ?_ ?_ ?_ ?_ ?_) ?_
  any_goals (first | omega | (simp [nilL, nilV]; done) | (simp [nilL, nilV, *]; done))
  try simp only [go_sem, qA, qB, qC, qD, qE, qF, qG, qH]
  repeat (refine ⟨(by first | omega | (simp [-gD]; first | done | omega)), ?_⟩)
  cases hok : progOk p
  · have hn : (sourceNew p).2 = false := by simp [sourceNew, hok]
    try simp only [go_sem, qA, qB, qC, qD, qE, qF, qG, qH, hn]
    repeat (refine ⟨(by first | omega | (simp [-gD]; first | done | omega)), ?_⟩)
    apply fin_tup (by simp)
    · exact Sub.refl _
    · simp [-List.drop_one, -gD, wentOf, hok, wents_nil] <;> (first | rfl | exact ⟨rfl, rfl⟩ | exact ⟨rfl, rfl, rfl⟩ | skip)
  have hn : (sourceNew p).2 = true := by simp [sourceNew, hok]
  by_cases hl : (4000 : Int) < picks.length
  · have hl' : ¬ (picks.length : Int) ≤ 4000 := by omega
    try simp only [go_sem, qA, qB, qC, qD, qE, qF, qG, qH, hn, hl]
    repeat (refine ⟨(by first | omega | (simp [-gD]; first | done | omega)), ?_⟩)
    apply fin_tup (by simp)
    · exact Sub.refl _
    · simp [-List.drop_one, -gD, wentOf, hok, hl', wents_nil] <;> (first | rfl | exact ⟨rfl, rfl⟩ | exact ⟨rfl, rfl, rfl⟩ | skip)
  try simp only [go_sem, qA, qB, qC, qD, qE, qF, qG, qH, hn, hl]
  repeat (refine ⟨(by first | omega | (simp [-gD]; first | done | omega)), ?_⟩)
  have hl' : (picks.length : Int) ≤ 4000 := by omega
  refine loop_intro (ι := Nat) (fun i => .mk [(1, .sl .bw 1 (ints picks)), (2, .ptr 10 0 0), (6, .ptr 14 0 0), (8, .ns 15 0 p.caps.length), (9, .int .i64 i)] [(10, 2, [progC .bw p]), (14, 3, [sourceC .own ((picks.take i).foldl (wentStep p) ((sourceNew p).1, List.replicate p.caps.length ⟨[], []⟩)).1]), (15, 2, wents .own ((picks.take i).foldl (wentStep p) ((sourceNew p).1, List.replicate p.caps.length ⟨[], []⟩)).2)] 16) (fun i => i ≤ picks.length) (fun i => picks.length - i) 0 (by simp) ?_ ?_
  · refine Sub.trans (Sub.fold1 14 0 11 rfl (by simp [-gD] <;> omega) rfl (by decide) (by decide) rfl) ?_
    simp only [fS, qA, qC]
    refine Sub.trans (Sub.fold1 14 1 12 rfl (by simp [-gD] <;> omega) rfl (by decide) (by decide) rfl) ?_
    simp only [fS, qA, qC]
    refine Sub.trans (Sub.fold1 14 2 13 rfl (by simp [-gD] <;> omega) rfl (by decide) (by decide) rfl) ?_
    simp only [fS, qA, qC]
    refine Sub.shape [] id (by omega) ?_ ?_ ?_ ?_ <;> simp [ints_rep]
    right
    exact nil_wents _
  · intro i hi
    have hr := runOk hok picks i hi
    have hstep := fun h => take_fold p picks i h ((sourceNew p).1, List.replicate p.caps.length ⟨[], []⟩)
    have hfin : ¬ (i : Int) < picks.length → (picks.take i).foldl (wentStep p) ((sourceNew p).1, List.replicate p.caps.length ⟨[], []⟩) = wentRun p picks := fun h => by rw [List.take_of_length_le (by omega)]; rfl
    generalize (picks.take i).foldl (wentStep p) ((sourceNew p).1, List.replicate p.caps.length ⟨[], []⟩) = st at hr hstep hfin
    obtain ⟨hso, hlen, hsm⟩ := hr
    have hsp := smallP_of hok
    have hss := small_of hso
    simp only [go_sem, qA, qB, qC, qD, qE, qF, qG, qH]
    repeat (refine ⟨(by first | omega | (simp [-gD]; first | done | omega)), ?_⟩)
    refine branch_intro (fun hc => ?_) (fun hc => ?_)
    · simp only [decide_eq_true_eq] at hc
      have hl2 : i < picks.length := by omega
      simp only [go_sem, qA, qB, qC, qD, qE, qF, qG, qH, ints_getD picks i hl2]
      repeat (refine ⟨(by first | omega | (simp [-gD]; first | done | omega)), ?_⟩)
      have hss2 : specSourceStep p st.1 (picks.getD i 0) = sourceStep p st.1 (picks.getD i 0) := by unfold specSourceStep; rw [if_pos hso]
      refine ⟨?_, ?_⟩
      · refine dcall_intro (call_ok0 [] (specSourceStep_ok p st.1 (picks.getD i 0) hsp hss) ?_ ?_ ?_ ?_ ?_ ?_) ?_ ?_
        any_goals (first | omega | (simp [nilL, nilV]; done) | (simp [nilL, nilV, *]; done))
        try simp only [go_sem, qA, qB, qC, qD, qE, qF, qG, qH]
        repeat (refine ⟨(by first | omega | (simp [-gD]; first | done | omega)), ?_⟩)
        by_cases hcode : sourceCode p st.1 (picks.getD i 0) = 0
        case neg =>
          have e2 : sourceStep p st.1 (picks.getD i 0) = (st.1, sourceCode p st.1 (picks.getD i 0)) := by unfold sourceStep; rw [if_neg hcode]
          have e3 : wentStep p st (picks.getD i 0) = st := by unfold wentStep; rw [if_neg hcode]
          try simp only [go_sem, qA, qB, qC, qD, qE, qF, qG, qH, hss2, e2, hcode, wrap_succ (i := i) (by omega)]
          repeat (refine ⟨(by first | omega | (simp [-gD]; first | done | omega)), ?_⟩)
          refine back_intro (i + 1) ?_ hl2 (by omega)
          refine Sub.trans (Sub.fold1 14 0 16 rfl (by simp [-gD] <;> omega) rfl (by decide) (by decide) rfl) ?_
          simp only [fS, qA, qC]
          refine Sub.trans (Sub.fold1 14 1 17 rfl (by simp [-gD] <;> omega) rfl (by decide) (by decide) rfl) ?_
          simp only [fS, qA, qC]
          refine Sub.trans (Sub.fold1 14 2 18 rfl (by simp [-gD] <;> omega) rfl (by decide) (by decide) rfl) ?_
          simp only [fS, qA, qC]
          rw [hstep hl2, e3]
          refine Sub.shape [] id (by omega) ?_ ?_ ?_ ?_ <;> simp [ints_rep]
        obtain ⟨w0, w1⟩ := code_in hcode
        obtain ⟨j, hj⟩ := Int.eq_ofNat_of_zero_le w0
        have hjn : (picks.getD i 0).toNat = j := by omega
        rw [hjn] at w1
        have ha := at_of hso w1
        have q1 := ha.at0
        have q2 := ha.at1
        have q3 := ha.hb
        have hx : (p.bods.getD j []).getD (st.1.ths.getD j default).at_.toNat default = ins p st.1 j := rfl
        have e2 : sourceStep p st.1 (picks.getD i 0) = (doStep p st.1 j, 0) := by unfold sourceStep; rw [if_pos hcode, hjn]
        have e3 : wentStep p st (picks.getD i 0) = (doStep p st.1 j, l27F st.2 (ins p st.1 j) (st.1.chs.getD (ins p st.1 j).n.toNat default).list ((doStep p st.1 j).chs.getD (ins p st.1 j).n.toNat default).list) := by unfold wentStep; rw [if_pos hcode, hjn]
        have hso2 := (runOk_step (who := picks.getD i 0) (i := i) ⟨hso, hlen, hsm⟩).ok
        rw [e3] at hso2
        have hss3 := small_of hso2
        have hx2 : 5 ≤ (ins p st.1 j).op → (ins p st.1 j).op ≤ 8 → 0 ≤ (ins p st.1 j).n ∧ (ins p st.1 j).n.toNat < st.2.length ∧ (ins p st.1 j).n.toNat < st.1.chs.length ∧ (ins p st.1 j).n.toNat < (doStep p st.1 j).chs.length := fun a b => by
          obtain ⟨n0, n1⟩ := ha.ch a (by omega)
          have c1 := ((sourceOk_iff p st.1).1 hso).2.2.1
          have c2 := ((sourceOk_iff p _).1 hso2).2.2.1
          simp only at c2
          omega
        have hss4 : specSourceStep p st.1 (j : Int) = (doStep p st.1 j, 0) := by rw [← hj, hss2, e2]
        try simp only [go_sem, qA, qB, qC, qD, qE, qF, qG, qH, hj, hss4, threads_getD .own st.1.ths j w1, bodies_getD .bw p.bods j q3, inss_getD (p.bods.getD j []) (st.1.ths.getD j default).at_.toNat q2, hx, Int.toNat_natCast, ints_getD picks i hl2]
        repeat (refine ⟨(by first | omega | (simp [-gD]; first | done | omega)), ?_⟩)
        refine calls_intro (call_ok0 [(0, 15)] (l27One_ok p st.2 (ins p st.1 j) st.1 (doStep p st.1 j) hx2 (fun w hw => by have := hsm w hw; omega) (fun c hc => by have := hss3.list c hc; omega)) ?_ ?_ ?_ ?_ ?_ ?_) ?_
        any_goals (first | omega | (simp [nilL, nilV]; done) | (simp [nilL, nilV, *]; done))
        try simp only [go_sem, qA, qB, qC, qD, qE, qF, qG, qH]
        repeat (refine ⟨(by first | omega | (simp [-gD]; first | done | omega)), ?_⟩)
        try simp only [go_sem, qA, qB, qC, qD, qE, qF, qG, qH, hlen, wrap_succ (i := i) (by omega)]
        repeat (refine ⟨(by first | omega | (simp [-gD]; first | done | omega)), ?_⟩)
        refine back_intro (i + 1) ?_ hl2 (by omega)
        refine Sub.trans (Sub.fold1 14 0 19 rfl (by simp [-gD] <;> omega) rfl (by decide) (by decide) rfl) ?_
        simp only [fS, qA, qC]
        refine Sub.trans (Sub.fold1 14 1 20 rfl (by simp [-gD] <;> omega) rfl (by decide) (by decide) rfl) ?_
        simp only [fS, qA, qC]
        refine Sub.trans (Sub.fold1 14 2 21 rfl (by simp [-gD] <;> omega) rfl (by decide) (by decide) rfl) ?_
        simp only [fS, qA, qC]
        rw [hstep hl2, e3]
        refine Sub.shape [] (fun n => if n = 15 then 24 else n) (by omega) ?_ ?_ ?_ ?_ <;> simp [ints_rep]
        all_goals (try (simp [l27F_length, hlen]; done))
      · repeat (refine ⟨(by first | omega | (simp [-gD]; first | done | omega)), ?_⟩)
        refine dcall_intro (call_ok0 [] (specSourceStep_ok p st.1 (picks.getD i 0) hsp hss) ?_ ?_ ?_ ?_ ?_ ?_) ?_ ?_
        any_goals (first | omega | (simp [nilL, nilV]; done) | (simp [nilL, nilV, *]; done))
        try simp only [go_sem, qA, qB, qC, qD, qE, qF, qG, qH]
        repeat (refine ⟨(by first | omega | (simp [-gD]; first | done | omega)), ?_⟩)
        by_cases hcode : sourceCode p st.1 (picks.getD i 0) = 0
        case neg =>
          have e2 : sourceStep p st.1 (picks.getD i 0) = (st.1, sourceCode p st.1 (picks.getD i 0)) := by unfold sourceStep; rw [if_neg hcode]
          have e3 : wentStep p st (picks.getD i 0) = st := by unfold wentStep; rw [if_neg hcode]
          try simp only [go_sem, qA, qB, qC, qD, qE, qF, qG, qH, hss2, e2, hcode, wrap_succ (i := i) (by omega)]
          repeat (refine ⟨(by first | omega | (simp [-gD]; first | done | omega)), ?_⟩)
          refine back_intro (i + 1) ?_ hl2 (by omega)
          refine Sub.trans (Sub.fold1 14 0 16 rfl (by simp [-gD] <;> omega) rfl (by decide) (by decide) rfl) ?_
          simp only [fS, qA, qC]
          refine Sub.trans (Sub.fold1 14 1 17 rfl (by simp [-gD] <;> omega) rfl (by decide) (by decide) rfl) ?_
          simp only [fS, qA, qC]
          refine Sub.trans (Sub.fold1 14 2 18 rfl (by simp [-gD] <;> omega) rfl (by decide) (by decide) rfl) ?_
          simp only [fS, qA, qC]
          rw [hstep hl2, e3]
          refine Sub.shape [] id (by omega) ?_ ?_ ?_ ?_ <;> simp [ints_rep]
        obtain ⟨w0, w1⟩ := code_in hcode
        obtain ⟨j, hj⟩ := Int.eq_ofNat_of_zero_le w0
        have hjn : (picks.getD i 0).toNat = j := by omega
        rw [hjn] at w1
        have ha := at_of hso w1
        have q1 := ha.at0
        have q2 := ha.at1
        have q3 := ha.hb
        have hx : (p.bods.getD j []).getD (st.1.ths.getD j default).at_.toNat default = ins p st.1 j := rfl
        have e2 : sourceStep p st.1 (picks.getD i 0) = (doStep p st.1 j, 0) := by unfold sourceStep; rw [if_pos hcode, hjn]
        have e3 : wentStep p st (picks.getD i 0) = (doStep p st.1 j, l27F st.2 (ins p st.1 j) (st.1.chs.getD (ins p st.1 j).n.toNat default).list ((doStep p st.1 j).chs.getD (ins p st.1 j).n.toNat default).list) := by unfold wentStep; rw [if_pos hcode, hjn]
        have hso2 := (runOk_step (who := picks.getD i 0) (i := i) ⟨hso, hlen, hsm⟩).ok
        rw [e3] at hso2
        have hss3 := small_of hso2
        have hx2 : 5 ≤ (ins p st.1 j).op → (ins p st.1 j).op ≤ 8 → 0 ≤ (ins p st.1 j).n ∧ (ins p st.1 j).n.toNat < st.2.length ∧ (ins p st.1 j).n.toNat < st.1.chs.length ∧ (ins p st.1 j).n.toNat < (doStep p st.1 j).chs.length := fun a b => by
          obtain ⟨n0, n1⟩ := ha.ch a (by omega)
          have c1 := ((sourceOk_iff p st.1).1 hso).2.2.1
          have c2 := ((sourceOk_iff p _).1 hso2).2.2.1
          simp only at c2
          omega
        have hss4 : specSourceStep p st.1 (j : Int) = (doStep p st.1 j, 0) := by rw [← hj, hss2, e2]
        try simp only [go_sem, qA, qB, qC, qD, qE, qF, qG, qH, hj, hss4, threads_getD .own st.1.ths j w1, bodies_getD .bw p.bods j q3, inss_getD (p.bods.getD j []) (st.1.ths.getD j default).at_.toNat q2, hx, Int.toNat_natCast, ints_getD picks i hl2]
        repeat (refine ⟨(by first | omega | (simp [-gD]; first | done | omega)), ?_⟩)
        refine calls_intro (call_ok0 [(0, 15)] (l27One_ok p st.2 (ins p st.1 j) st.1 (doStep p st.1 j) hx2 (fun w hw => by have := hsm w hw; omega) (fun c hc => by have := hss3.list c hc; omega)) ?_ ?_ ?_ ?_ ?_ ?_) ?_
        any_goals (first | omega | (simp [nilL, nilV]; done) | (simp [nilL, nilV, *]; done))
        try simp only [go_sem, qA, qB, qC, qD, qE, qF, qG, qH]
        repeat (refine ⟨(by first | omega | (simp [-gD]; first | done | omega)), ?_⟩)
        try simp only [go_sem, qA, qB, qC, qD, qE, qF, qG, qH, hlen, wrap_succ (i := i) (by omega)]
        repeat (refine ⟨(by first | omega | (simp [-gD]; first | done | omega)), ?_⟩)
        refine back_intro (i + 1) ?_ hl2 (by omega)
        refine Sub.trans (Sub.fold1 14 0 20 rfl (by simp [-gD] <;> omega) rfl (by decide) (by decide) rfl) ?_
        simp only [fS, qA, qC]
        refine Sub.trans (Sub.fold1 14 1 21 rfl (by simp [-gD] <;> omega) rfl (by decide) (by decide) rfl) ?_
        simp only [fS, qA, qC]
        refine Sub.trans (Sub.fold1 14 2 22 rfl (by simp [-gD] <;> omega) rfl (by decide) (by decide) rfl) ?_
        simp only [fS, qA, qC]
        rw [hstep hl2, e3]
        refine Sub.shape [] (fun n => if n = 15 then 24 else n) (by omega) ?_ ?_ ?_ ?_ <;> simp [ints_rep]
        all_goals (try (simp [l27F_length, hlen]; done))
    · simp only [decide_eq_false_iff_not] at hc
      have hf := hfin hc
      simp only [go_sem, qA, qB, qC, qD, qE, qF, qG, qH]
      repeat (refine ⟨(by first | omega | (simp [-gD]; first | done | omega)), ?_⟩)
      apply fin_tup (by simp)
      · exact Sub.refl _
      · simp [-List.drop_one, -gD, wentOf, hok, hl', hlen, ← hf] <;> (first | rfl | exact ⟨rfl, rfl⟩ | exact ⟨rfl, rfl, rfl⟩ | skip)


end Go.Sep
