/- Contracts of functions. -/
import Derived.Test.YtknndifegfbaaaaConk
namespace Go.Sep
open Go.Proofs
set_option linter.unusedSimpArgs false
set_option linter.unusedVariables false
set_option maxRecDepth 100000
open Nat renaming reduceAdd → qA, reduceMul → qB, reduceEqDiff → qC, reduceBEq → qD
open Int renaming reduceToNat → qE, reduceEq → qF, reduceLT → qG, reduceLE → qH
open List renaming getD_eq_getElem?_getD → gD
attribute [local go_sem] paramT preH e_seq e_reg e_block e_loop e_ops e_skip e_ret e_cond e_guard e_call e_ops1 plan next_ok next_some Arg.ev lookT putD putT if_false if_true app1 put del ints_length binA Option.map_some Option.bind_some look Int.toNat_natCast e_blk e_stop e_exit exitIt true_and and_true maybe_do maybe_tf maybe_ft branch_true branch_false Bool.false_eq_true bnd? cellsOf openL List.isEmpty_nil List.isEmpty_cons fresh List.map_nil List.map_cons List.cons_append List.nil_append splice List.take_zero List.drop_zero List.take_succ_cons List.getD_cons_zero List.length_cons List.length_nil List.drop_succ_cons List.drop_nil List.append_nil List.all_cons List.all_nil cellOk Bool.and_self Nat.zero_add e_dreg e_done e_take e_only1 e_onlyc e_takeg e_onlyg e_both dnext_some dnext_ok dmaybe_do rdTake pdTake addP rdOnly pdOnly isRead alive needs undep apart List.filter_nil List.filter_cons Option.isSome_some Option.isSome_none List.contains_nil List.contains_cons List.forall_mem_cons List.mem_cons List.not_mem_nil false_implies implies_true forall_const forall_eq_or_imp forall_eq or_false beq_self_eq_true Bool.or_false Bool.false_or Bool.true_or Bool.or_true Bool.not_true Bool.not_false xv xo xg xr xi xz List.set_set maybe_skip dmaybe_skip dmaybe_tf dmaybe_ft fillR fillROk fillA fillOk srcA eqC bytesOf ints_append List.replicate_zero decide_true decide_false ints_set nil_bind List.replicate_succ Int.toNat_zero Int.toNat_one eq_self Bool.and_true Bool.true_and Bool.and_false Bool.false_and List.set_cons_zero List.set_cons_succ List.getD_cons_succ rnm ixm renV renL openV openVs cond_true cond_false ints_drop ints_take drop_all
attribute [local simp] hand bwT bwC bwL ints_bw ints_take lookT Arg.ev handOk bwOk bwOks bwTs nf_sl nf_int nf_bool ints_bnd okV okL nb nbs nbr ints_nb look ints_length bnd bnds bndr renV renL ixm rnm apart needs rdOnly pdOnly fresh openV openVs resAV allP giveL giveV postH del isOwn partR ints_drop drop_all shp okB okBs ints_free
attribute [local go_sem] inss_length inss_append inss_drop inss_take inss_set insC bodies_length bodies_append bodies_drop bodies_take bodies_set intss_length intss_append intss_drop intss_take intss_set chans_length chans_append chans_drop chans_take chans_set chanC notes_length notes_append notes_drop notes_take notes_set noteC threads_length threads_append threads_drop threads_take threads_set threadC wents_length wents_append wents_drop wents_take wents_set wentC progs_length progs_append progs_drop progs_take progs_set progC sources_length sources_append sources_drop sources_take sources_set sourceC bys_length bys_append bys_drop bys_take bys_set
attribute [local simp] nilL_cons nilL_nil nilV_agg nilV_tup nilV_nilsl nilV_nil nilV_sl nilV_int nilV_bool nilV_str nilV_ns nilV_ptr nilRs_cons nilRs_nil free_nil free_cons inss_nil inss_bw inss_bnd inss_nb inss_length inss_take inss_drop inss_free bodies_nil bodies_bw bodies_bnd bodies_nb bodies_length bodies_take bodies_drop bodies_free intss_nil intss_bw intss_bnd intss_nb intss_length intss_take intss_drop intss_free chans_nil chans_bw chans_bnd chans_nb chans_length chans_take chans_drop chans_free notes_nil notes_bw notes_bnd notes_nb notes_length notes_take notes_drop notes_free threads_nil threads_bw threads_bnd threads_nb threads_length threads_take threads_drop threads_free wents_nil wents_bw wents_bnd wents_nb wents_length wents_take wents_drop wents_free progs_nil progs_bw progs_bnd progs_nb progs_length progs_take progs_drop progs_free sources_nil sources_bw sources_bnd sources_nb sources_length sources_take sources_drop sources_free bys_nil bys_bw bys_bnd bys_nb bys_length bys_take bys_drop bys_free curC insC chanC noteC threadC wentC progC sourceC

/-- What comes behind: the next byte of a draw, mixed. -/
def hNext (h : Int) : Int := IntKind.i64.wrap (IntKind.i64.wrap (h * 6364136223846793005) + 1442695040888963407)
def mixed (h : Int) : Int := bAnd .i64 (bXor .i64 (bShr .i64 h 33) (bShr .i64 h 45)) 255
def byteF (code : List Int) (c : Cur) : Int × Cur :=
  if (c.i : Int) < code.length then (bAnd .i64 (IntKind.i64.wrap (mixed (hNext c.h) + IntKind.i64.wrap (code.getD c.i 0))) 255, ⟨c.i + 1, hNext c.h⟩) else (mixed (hNext c.h), ⟨c.i, hNext c.h⟩)

theorem and255 (a : Int) : 0 ≤ bAnd .i64 a 255 ∧ bAnd .i64 a 255 ≤ 255 := by
  unfold bAnd
  have h : (BitVec.ofInt IntKind.i64.bits a &&& BitVec.ofInt IntKind.i64.bits 255).toNat ≤ 255 := by
    rw [BitVec.toNat_and]
    have : (BitVec.ofInt IntKind.i64.bits 255).toNat = 255 := by decide
    rw [this]
    exact Nat.and_le_right
  rw [wrap64 (by omega) (by omega)]
  omega
theorem byteF_in (code : List Int) (c : Cur) : 0 ≤ (byteF code c).1 ∧ (byteF code c).1 ≤ 255 := by
  unfold byteF
  split
  · exact and255 _
  · exact and255 _

def curRow (code : List Int) (c : Cur) : Nat × List (List AV) := (3, [curC code c])

theorem l1Byte_ok (code : List Int) (c : Cur) (hb : code.length < 2 ^ 62) : CallOk Try.prog num 58 [.ptr 0 0 0] [(0, some (3, [curC code c]), some (3, [curC code (byteF code c).2]))] (.int .i64 (byteF code c).1) := by
  refine enter (m := m58) (f := 58) (fn := Try.f57) Try.func57 (by kernel_rfl) rfl c58 rfl (by simp [Try.f57]) (by simp [bnds, bnd, nf_sl, nf_int, nf_bool, nf_str, ints_bnd]) (by first | (simp [preH, hb_nil, hb_cons, ints_bnd]; done) | exact hb_cons _ _ _ _ ((hb_nil _).2 trivial) (by decide) (by simp [ints_bnd, bndr, bnds, bnd])) ?_
  unfold m58
  simp only [go_sem, qA, qB, qC, qD, qE, qF, qG, qH, curC, shiftA, reduceCtorEq]
  repeat (refine ⟨(by first | omega | (simp [-gD]; first | done | omega)), ?_⟩)
  refine branch_intro (fun hc => ?_) (fun hc => ?_)
  · simp only [decide_eq_true_eq] at hc
    have hl : c.i < code.length := by omega
    simp only [go_sem, qA, qB, qC, qD, qE, qF, qG, qH, shiftA, reduceCtorEq, bys_getD code c.i hl, wrap_succ (i := c.i) (by omega)]
    repeat (refine ⟨(by first | omega | (simp [-gD]; first | done | omega)), ?_⟩)
    apply fin_one
    · exact Sub.refl _
    · simp [-List.drop_one, -gD, byteF, hc, mixed, hNext] <;> (first | rfl | exact ⟨rfl, rfl⟩ | exact ⟨rfl, rfl, rfl⟩ | skip)
  · simp only [decide_eq_false_iff_not] at hc
    simp only [go_sem, qA, qB, qC, qD, qE, qF, qG, qH]
    repeat (refine ⟨(by first | omega | (simp [-gD]; first | done | omega)), ?_⟩)
    apply fin_one
    · exact Sub.refl _
    · simp [-List.drop_one, -gD, byteF, hc, mixed, hNext] <;> (first | rfl | exact ⟨rfl, rfl⟩ | exact ⟨rfl, rfl, rfl⟩ | skip)

def b1 (code : List Int) (c : Cur) : Int × Cur := byteF code c
def belowF (code : List Int) (c : Cur) (n : Int) : Int × Cur :=
  if n ≤ 0 then (0, c) else if n ≤ 256 then ((byteF code c).1.tmod n, (byteF code c).2) else
  ((IntKind.i64.wrap (IntKind.i64.wrap (IntKind.i64.wrap (IntKind.i64.wrap ((byteF code c).1 * 16777216) + IntKind.i64.wrap ((byteF code (byteF code c).2).1 * 65536)) + IntKind.i64.wrap ((byteF code (byteF code (byteF code c).2).2).1 * 256)) + (byteF code (byteF code (byteF code (byteF code c).2).2).2).1)).tmod n, (byteF code (byteF code (byteF code (byteF code c).2).2).2).2)

theorem belowF_in (code : List Int) (c : Cur) (n : Int) (h : 0 < n) : 0 ≤ (belowF code c n).1 ∧ (belowF code c n).1 < n := by
  unfold belowF
  rw [if_neg (by omega)]
  split
  · have := byteF_in code c
    exact ⟨Int.tmod_nonneg _ (by omega), Int.tmod_lt_of_pos _ h⟩
  · have h1 := byteF_in code c
    have h2 := byteF_in code (byteF code c).2
    have h3 := byteF_in code (byteF code (byteF code c).2).2
    have h4 := byteF_in code (byteF code (byteF code (byteF code c).2).2).2
    refine ⟨Int.tmod_nonneg _ ?_, Int.tmod_lt_of_pos _ h⟩
    rw [wrap64 (n := (byteF code c).1 * 16777216) (by omega) (by omega), wrap64 (n := (byteF code (byteF code c).2).1 * 65536) (by omega) (by omega), wrap64 (n := (byteF code (byteF code (byteF code c).2).2).1 * 256) (by omega) (by omega)]
    rw [wrap64 (n := (byteF code c).1 * 16777216 + (byteF code (byteF code c).2).1 * 65536) (by omega) (by omega)]
    rw [wrap64 (n := (byteF code c).1 * 16777216 + (byteF code (byteF code c).2).1 * 65536 + (byteF code (byteF code (byteF code c).2).2).1 * 256) (by omega) (by omega)]
    rw [wrap64 (by omega) (by omega)]
    omega
theorem belowF_zero (code : List Int) (c : Cur) (n : Int) (h : n ≤ 0) : belowF code c n = (0, c) := by
  unfold belowF
  rw [if_pos h]

theorem l1Below_ok (code : List Int) (c : Cur) (n : Int) (hb : code.length < 2 ^ 62) : CallOk Try.prog num 39 [.ptr 0 0 0, .int .i64 n] [(0, some (3, [curC code c]), some (3, [curC code (belowF code c n).2]))] (.int .i64 (belowF code c n).1) := by
  refine enter (m := m39) (f := 39) (fn := Try.f38) Try.func38 (by kernel_rfl) rfl c39 rfl (by simp [Try.f38]) (by simp [bnds, bnd, nf_sl, nf_int, nf_bool, nf_str, ints_bnd]) (by first | (simp [preH, hb_nil, hb_cons, ints_bnd]; done) | exact hb_cons _ _ _ _ ((hb_nil _).2 trivial) (by decide) (by simp [ints_bnd, bndr, bnds, bnd])) ?_
  unfold m39
  by_cases h0 : n ≤ 0
  · simp only [go_sem, qA, qB, qC, qD, qE, qF, qG, qH, h0]
    repeat (refine ⟨(by first | omega | (simp [-gD]; first | done | omega)), ?_⟩)
    apply fin_one
    · exact Sub.refl _
    · simp [-List.drop_one, -gD, belowF, h0] <;> (first | rfl | exact ⟨rfl, rfl⟩ | exact ⟨rfl, rfl, rfl⟩ | skip)
  have hn : ¬ n = 0 := by omega
  by_cases h1 : n ≤ 256
  · simp only [go_sem, qA, qB, qC, qD, qE, qF, qG, qH, h0, h1]
    repeat (refine ⟨(by first | omega | (simp [-gD]; first | done | omega)), ?_⟩)
    refine calls_intro (call_ok0 [(0, 0)] (l1Byte_ok code c hb) ?_ ?_ ?_ ?_ ?_ ?_) ?_
    any_goals (first | omega | (simp [nilL, nilV]; done) | (simp [nilL, nilV, *]; done))
    try simp only [go_sem, qA, qB, qC, qD, qE, qF, qG, qH]
    repeat (refine ⟨(by first | omega | (simp [-gD]; first | done | omega)), ?_⟩)
    try simp only [go_sem, qA, qB, qC, qD, qE, qF, qG, qH, hn]
    repeat (refine ⟨(by first | omega | (simp [-gD]; first | done | omega)), ?_⟩)
    apply fin_one
    · exact Sub.refl _
    · simp [-List.drop_one, -gD, belowF, h0, h1] <;> (first | rfl | exact ⟨rfl, rfl⟩ | exact ⟨rfl, rfl, rfl⟩ | skip)
  simp only [go_sem, qA, qB, qC, qD, qE, qF, qG, qH, h0, h1]
  repeat (refine ⟨(by first | omega | (simp [-gD]; first | done | omega)), ?_⟩)
  refine calls_intro (call_ok0 [(0, 0)] (l1Byte_ok code c hb) ?_ ?_ ?_ ?_ ?_ ?_) ?_
  any_goals (first | omega | (simp [nilL, nilV]; done) | (simp [nilL, nilV, *]; done))
  try simp only [go_sem, qA, qB, qC, qD, qE, qF, qG, qH]
  repeat (refine ⟨(by first | omega | (simp [-gD]; first | done | omega)), ?_⟩)
  try simp only [go_sem, qA, qB, qC, qD, qE, qF, qG, qH, hn]
  repeat (refine ⟨(by first | omega | (simp [-gD]; first | done | omega)), ?_⟩)
  refine calls_intro (call_ok0 [(0, 0)] (l1Byte_ok code (byteF code c).2 hb) ?_ ?_ ?_ ?_ ?_ ?_) ?_
  any_goals (first | omega | (simp [nilL, nilV]; done) | (simp [nilL, nilV, *]; done))
  try simp only [go_sem, qA, qB, qC, qD, qE, qF, qG, qH]
  repeat (refine ⟨(by first | omega | (simp [-gD]; first | done | omega)), ?_⟩)
  try simp only [go_sem, qA, qB, qC, qD, qE, qF, qG, qH, hn]
  repeat (refine ⟨(by first | omega | (simp [-gD]; first | done | omega)), ?_⟩)
  refine calls_intro (call_ok0 [(0, 0)] (l1Byte_ok code (byteF code (byteF code c).2).2 hb) ?_ ?_ ?_ ?_ ?_ ?_) ?_
  any_goals (first | omega | (simp [nilL, nilV]; done) | (simp [nilL, nilV, *]; done))
  try simp only [go_sem, qA, qB, qC, qD, qE, qF, qG, qH]
  repeat (refine ⟨(by first | omega | (simp [-gD]; first | done | omega)), ?_⟩)
  try simp only [go_sem, qA, qB, qC, qD, qE, qF, qG, qH, hn]
  repeat (refine ⟨(by first | omega | (simp [-gD]; first | done | omega)), ?_⟩)
  refine calls_intro (call_ok0 [(0, 0)] (l1Byte_ok code (byteF code (byteF code (byteF code c).2).2).2 hb) ?_ ?_ ?_ ?_ ?_ ?_) ?_
  any_goals (first | omega | (simp [nilL, nilV]; done) | (simp [nilL, nilV, *]; done))
  try simp only [go_sem, qA, qB, qC, qD, qE, qF, qG, qH]
  repeat (refine ⟨(by first | omega | (simp [-gD]; first | done | omega)), ?_⟩)
  try simp only [go_sem, qA, qB, qC, qD, qE, qF, qG, qH, hn]
  repeat (refine ⟨(by first | omega | (simp [-gD]; first | done | omega)), ?_⟩)
  apply fin_one
  · exact Sub.refl _
  · simp [-List.drop_one, -gD, belowF, h0, h1] <;> (first | rfl | exact ⟨rfl, rfl⟩ | exact ⟨rfl, rfl, rfl⟩ | skip)

def onceF (code : List Int) (c : Cur) (n : Int) : Bool × Cur := (decide ((belowF code c n).1 = 0), (belowF code c n).2)
theorem l1Once_ok (code : List Int) (c : Cur) (n : Int) (hb : code.length < 2 ^ 62) : CallOk Try.prog num 40 [.ptr 0 0 0, .int .i64 n] [(0, some (3, [curC code c]), some (3, [curC code (onceF code c n).2]))] (.bool (onceF code c n).1) := by
  refine enter (m := m40) (f := 40) (fn := Try.f39) Try.func39 (by kernel_rfl) rfl c40 rfl (by simp [Try.f39]) (by simp [bnds, bnd, nf_sl, nf_int, nf_bool, nf_str, ints_bnd]) (by first | (simp [preH, hb_nil, hb_cons, ints_bnd]; done) | exact hb_cons _ _ _ _ ((hb_nil _).2 trivial) (by decide) (by simp [ints_bnd, bndr, bnds, bnd])) ?_
  unfold m40
  simp only [go_sem, qA, qB, qC, qD, qE, qF, qG, qH]
  repeat (refine ⟨(by first | omega | (simp [-gD]; first | done | omega)), ?_⟩)
  refine calls_intro (call_ok0 [(0, 0)] (l1Below_ok code c n hb) ?_ ?_ ?_ ?_ ?_ ?_) ?_
  any_goals (first | omega | (simp [nilL, nilV]; done) | (simp [nilL, nilV, *]; done))
  try simp only [go_sem, qA, qB, qC, qD, qE, qF, qG, qH]
  repeat (refine ⟨(by first | omega | (simp [-gD]; first | done | omega)), ?_⟩)
  refine ⟨_, Sub.refl _, ?_⟩; simp [FinS, nilL, nilV, oneOr, -List.drop_one]
  simp [onceF]

def pickF (code : List Int) (c : Cur) (l : List Int) : Int × Cur := (l.getD (belowF code c l.length).1.toNat 0, (belowF code c l.length).2)
theorem l1PickInt_ok (code : List Int) (c : Cur) (l : List Int) (hb : code.length < 2 ^ 62) (hl : 0 < l.length) : CallOk Try.prog num 56 [.ptr 0 0 0, .sl .bw 1 (ints l)] [(0, some (3, [curC code c]), some (3, [curC code (pickF code c l).2]))] (.int .i64 (pickF code c l).1) := by
  refine enter (m := m56) (f := 56) (fn := Try.f55) Try.func55 (by kernel_rfl) rfl c56 rfl (by simp [Try.f55]) (by simp [bnds, bnd, nf_sl, nf_int, nf_bool, nf_str, ints_bnd]) (by first | (simp [preH, hb_nil, hb_cons, ints_bnd]; done) | exact hb_cons _ _ _ _ ((hb_nil _).2 trivial) (by decide) (by simp [ints_bnd, bndr, bnds, bnd])) ?_
  unfold m56
  simp only [go_sem, qA, qB, qC, qD, qE, qF, qG, qH]
  repeat (refine ⟨(by first | omega | (simp [-gD]; first | done | omega)), ?_⟩)
  refine calls_intro (call_ok0 [(0, 0)] (l1Below_ok code c l.length hb) ?_ ?_ ?_ ?_ ?_ ?_) ?_
  any_goals (first | omega | (simp [nilL, nilV]; done) | (simp [nilL, nilV, *]; done))
  try simp only [go_sem, qA, qB, qC, qD, qE, qF, qG, qH]
  repeat (refine ⟨(by first | omega | (simp [-gD]; first | done | omega)), ?_⟩)
  have h := belowF_in code c l.length (by omega)
  have h2 : (belowF code c l.length).1.toNat < l.length := by omega
  try simp only [go_sem, qA, qB, qC, qD, qE, qF, qG, qH, ints_getD l _ h2]
  repeat (refine ⟨(by first | omega | (simp [-gD]; first | done | omega)), ?_⟩)
  refine ⟨_, Sub.refl _, ?_⟩; simp [FinS, nilL, nilV, oneOr, -List.drop_one]
  simp [pickF]

def hStep (h x : Int) : Int := bAnd .i64 (IntKind.i64.wrap (IntKind.i64.wrap (IntKind.i64.wrap (h * 131) + IntKind.i64.wrap x) + 7)) 1073741823
def hashOf (code : List Int) (i : Nat) : Int := (code.take i).foldl hStep (IntKind.i64.wrap (18813 + code.length))
def newF (code : List Int) : Cur := ⟨0, hashOf code 4000⟩
theorem hashOf_succ (code : List Int) (i : Nat) (h : i < code.length) : hashOf code (i + 1) = hStep (hashOf code i) (code.getD i 0) := by
  unfold hashOf
  rw [take_snoc code 0 i h, List.foldl_append]
  rfl

theorem l1New_ok (code : List Int) (hb : code.length < 2 ^ 62) : CallOk Try.prog num 37 [.sl .fz 1 (bys code)] [(10, none, some (3, [curC code (newF code)]))] (.ptr 10 0 0) := by
  refine enter (m := m37) (f := 37) (fn := Try.f36) Try.func36 (by kernel_rfl) rfl c37 rfl (by simp [Try.f36]) (by simp [bnds, bnd, nf_sl, nf_int, nf_bool, nf_str, ints_bnd]) (fun _ _ h => by simp [preH, look] at h) ?_
  unfold m37
  simp only [go_sem, qA, qB, qC, qD, qE, qF, qG, qH]
  repeat (refine ⟨(by first | omega | (simp [-gD]; first | done | omega)), ?_⟩)
  refine loop_intro (ι := Nat) (fun i => .mk [(0, .sl .fz 1 (bys code)), (3, .int .i64 (hashOf code i)), (4, .int .i64 i)] [] 10) (fun i => i ≤ code.length ∧ i ≤ 4000) (fun i => code.length - i) 0 (by simp) ?_ ?_
  · refine Sub.shape [] id (by omega) ?_ ?_ ?_ ?_ <;> simp [ints_rep]
    simp [hashOf]
  · rintro i ⟨hi, hi2⟩
    have hfin : ¬ (i : Int) < 4000 ∨ ¬ (i : Int) < code.length → hashOf code i = hashOf code 4000 := by
      rintro (h | h)
      · have : i = 4000 := by omega
        rw [this]
      · unfold hashOf
        rw [List.take_of_length_le (by omega), List.take_of_length_le (by omega)]
    by_cases h1 : (i : Int) < code.length
    · have h1' : i < code.length := by omega
      by_cases h2 : (i : Int) < 4000
      · have hs := hashOf_succ code i h1'
        unfold hStep at hs
        simp only [go_sem, qA, qB, qC, qD, qE, qF, qG, qH, h1, h2, bys_getD code i h1', ← hs, wrap_succ (i := i) (by omega)]
        repeat (refine ⟨(by first | omega | (simp [-gD]; first | done | omega)), ?_⟩)
        refine back_intro (i + 1) ?_ ⟨h1', by omega⟩ (by omega)
        refine Sub.shape [] id (by omega) ?_ ?_ ?_ ?_ <;> simp [ints_rep]
      · have he := hfin (.inl h2)
        simp only [go_sem, qA, qB, qC, qD, qE, qF, qG, qH, h1, h2, he]
        repeat (refine ⟨(by first | omega | (simp [-gD]; first | done | omega)), ?_⟩)
        apply fin_one
        · exact Sub.refl _
        · simp [-List.drop_one, -gD, newF] <;> (first | rfl | exact ⟨rfl, rfl⟩ | exact ⟨rfl, rfl, rfl⟩ | skip)
    · have he := hfin (.inr h1)
      simp only [go_sem, qA, qB, qC, qD, qE, qF, qG, qH, h1, he]
      repeat (refine ⟨(by first | omega | (simp [-gD]; first | done | omega)), ?_⟩)
      apply fin_one
      · exact Sub.refl _
      · simp [-List.drop_one, -gD, newF] <;> (first | rfl | exact ⟨rfl, rfl⟩ | exact ⟨rfl, rfl, rfl⟩ | skip)

theorem l1Max_ok (a b : Int) : CallOk Try.prog num 98 [.int .i64 a, .int .i64 b] [] (.int .i64 (if b < a then a else b)) := by
  refine enter (m := m98) (f := 98) (fn := Try.f97) Try.func97 (by kernel_rfl) rfl c98 rfl (by simp [Try.f97]) (by simp [bnds, bnd, nf_sl, nf_int, nf_bool, nf_str, ints_bnd]) (fun _ _ h => by simp [preH, look] at h) ?_
  unfold m98
  by_cases h : b < a
  · simp only [go_sem, qA, qB, qC, qD, qE, qF, qG, qH, h]
    repeat (refine ⟨(by first | omega | (simp [-gD]; first | done | omega)), ?_⟩)
    refine ⟨_, Sub.refl _, ?_⟩; simp [FinS, nilL, nilV, oneOr, -List.drop_one]
  · simp only [go_sem, qA, qB, qC, qD, qE, qF, qG, qH, h]
    repeat (refine ⟨(by first | omega | (simp [-gD]; first | done | omega)), ?_⟩)
    refine ⟨_, Sub.refl _, ?_⟩; simp [FinS, nilL, nilV, oneOr, -List.drop_one]

def insAt (code : List Int) (places r a b n k : Int) (c : Cur) : Ins × Cur :=
  if k = 0 ∨ k = 1 then (⟨1, r, 0, 0, IntKind.i64.wrap ((belowF code c 9).1 - 2)⟩, (belowF code c 9).2)
  else if k = 2 ∨ k = 3 then (⟨IntKind.i64.wrap (2 + (belowF code c 3).1), r, a, b, 0⟩, (belowF code c 3).2)
  else if k = 4 ∨ k = 5 ∨ k = 6 then (⟨5, 0, a, 0, n⟩, c)
  else if k = 7 ∨ k = 8 ∨ k = 9 then (⟨6, r, 0, (IntKind.i64.wrap (r + 1)).tmod 4, n⟩, c)
  else if k = 10 then (⟨7, r, a, 0, n⟩, c)
  else if k = 11 then (⟨8, r, 0, (IntKind.i64.wrap (r + 1)).tmod 4, n⟩, c)
  else if k = 12 then (if (onceF code c 3).1 then (⟨9, 0, 0, 0, n⟩, (onceF code c 3).2) else (⟨11, 0, 0, 0, (belowF code (onceF code c 3).2 places).1⟩, (belowF code (onceF code c 3).2 places).2))
  else if k = 13 then (⟨12, 0, a, 0, (belowF code c places).1⟩, (belowF code c places).2)
  else (⟨10, 0, a, 0, 0⟩, c)
def insF2 (code : List Int) (places chans : Int) (r a b : Int) (c : Cur) : Ins × Cur :=
  insAt code places r a b (belowF code c (if 1 < chans then chans else 1)).1 (belowF code (belowF code c (if 1 < chans then chans else 1)).2 16).1 (belowF code (belowF code c (if 1 < chans then chans else 1)).2 16).2
def insF (code : List Int) (c : Cur) (places chans : Int) : Ins × Cur :=
  insF2 code places chans (belowF code c 4).1 (belowF code (belowF code c 4).2 4).1 (belowF code (belowF code (belowF code c 4).2 4).2 4).1 (belowF code (belowF code (belowF code c 4).2 4).2 4).2

set_option maxHeartbeats 4000000 in
theorem l1DrawIns_ok (code : List Int) (c : Cur) (places chans : Int) (hb : code.length < 2 ^ 62) : CallOk Try.prog num 91 [.ptr 0 0 0, .int .i64 places, .int .i64 chans] [(0, some (3, [curC code c]), some (3, [curC code (insF code c places chans).2]))] (.agg (insC (insF code c places chans).1)) := by
  refine enter (m := m91) (f := 91) (fn := Try.f90) Try.func90 (by kernel_rfl) rfl c91 rfl (by simp [Try.f90]) (by simp [bnds, bnd, nf_sl, nf_int, nf_bool, nf_str, ints_bnd]) (by first | (simp [preH, hb_nil, hb_cons, ints_bnd]; done) | exact hb_cons _ _ _ _ ((hb_nil _).2 trivial) (by decide) (by simp [ints_bnd, bndr, bnds, bnd])) ?_
  unfold m91 insF
  simp only [go_sem, qA, qB, qC, qD, qE, qF, qG, qH]
  repeat (refine ⟨(by first | omega | (simp [-gD]; first | done | omega)), ?_⟩)
  refine calls_intro (call_ok0 [(0, 0)] (l1Below_ok code c 4 hb) ?_ ?_ ?_ ?_ ?_ ?_) ?_
  any_goals (first | omega | (simp [nilL, nilV]; done) | (simp [nilL, nilV, *]; done))
  try simp only [go_sem, qA, qB, qC, qD, qE, qF, qG, qH]
  repeat (refine ⟨(by first | omega | (simp [-gD]; first | done | omega)), ?_⟩)
  generalize belowF code c 4 = r
  try simp only [go_sem, qA, qB, qC, qD, qE, qF, qG, qH]
  repeat (refine ⟨(by first | omega | (simp [-gD]; first | done | omega)), ?_⟩)
  refine calls_intro (call_ok0 [(0, 0)] (l1Below_ok code r.2 4 hb) ?_ ?_ ?_ ?_ ?_ ?_) ?_
  any_goals (first | omega | (simp [nilL, nilV]; done) | (simp [nilL, nilV, *]; done))
  try simp only [go_sem, qA, qB, qC, qD, qE, qF, qG, qH]
  repeat (refine ⟨(by first | omega | (simp [-gD]; first | done | omega)), ?_⟩)
  generalize belowF code r.2 4 = a
  try simp only [go_sem, qA, qB, qC, qD, qE, qF, qG, qH]
  repeat (refine ⟨(by first | omega | (simp [-gD]; first | done | omega)), ?_⟩)
  refine calls_intro (call_ok0 [(0, 0)] (l1Below_ok code a.2 4 hb) ?_ ?_ ?_ ?_ ?_ ?_) ?_
  any_goals (first | omega | (simp [nilL, nilV]; done) | (simp [nilL, nilV, *]; done))
  try simp only [go_sem, qA, qB, qC, qD, qE, qF, qG, qH]
  repeat (refine ⟨(by first | omega | (simp [-gD]; first | done | omega)), ?_⟩)
  generalize belowF code a.2 4 = b
  unfold insF2
  try simp only [go_sem, qA, qB, qC, qD, qE, qF, qG, qH]
  repeat (refine ⟨(by first | omega | (simp [-gD]; first | done | omega)), ?_⟩)
  refine calls_intro (call_ok0 [] (l1Max_ok chans 1) ?_ ?_ ?_ ?_ ?_ ?_) ?_
  any_goals (first | omega | (simp [nilL, nilV]; done) | (simp [nilL, nilV, *]; done))
  try simp only [go_sem, qA, qB, qC, qD, qE, qF, qG, qH]
  repeat (refine ⟨(by first | omega | (simp [-gD]; first | done | omega)), ?_⟩)
  try simp only [go_sem, qA, qB, qC, qD, qE, qF, qG, qH]
  repeat (refine ⟨(by first | omega | (simp [-gD]; first | done | omega)), ?_⟩)
  refine calls_intro (call_ok0 [(0, 0)] (l1Below_ok code b.2 (if 1 < chans then chans else 1) hb) ?_ ?_ ?_ ?_ ?_ ?_) ?_
  any_goals (first | omega | (simp [nilL, nilV]; done) | (simp [nilL, nilV, *]; done))
  try simp only [go_sem, qA, qB, qC, qD, qE, qF, qG, qH]
  repeat (refine ⟨(by first | omega | (simp [-gD]; first | done | omega)), ?_⟩)
  generalize belowF code b.2 (if 1 < chans then chans else 1) = n
  try simp only [go_sem, qA, qB, qC, qD, qE, qF, qG, qH]
  repeat (refine ⟨(by first | omega | (simp [-gD]; first | done | omega)), ?_⟩)
  refine calls_intro (call_ok0 [(0, 0)] (l1Below_ok code n.2 16 hb) ?_ ?_ ?_ ?_ ?_ ?_) ?_
  any_goals (first | omega | (simp [nilL, nilV]; done) | (simp [nilL, nilV, *]; done))
  try simp only [go_sem, qA, qB, qC, qD, qE, qF, qG, qH]
  repeat (refine ⟨(by first | omega | (simp [-gD]; first | done | omega)), ?_⟩)
  generalize belowF code n.2 16 = k
  try simp only [go_sem, qA, qB, qC, qD, qE, qF, qG, qH]
  repeat (refine ⟨(by first | omega | (simp [-gD]; first | done | omega)), ?_⟩)
  obtain ⟨k, d⟩ := k
  simp only
  unfold insAt
  by_cases h0 : k = 0
  · subst h0
    try simp only [go_sem, qA, qB, qC, qD, qE, qF, qG, qH, reduceCtorEq]
    repeat (refine ⟨(by first | omega | (simp [-gD]; first | done | omega)), ?_⟩)
    refine calls_intro (call_ok0 [(0, 0)] (l1Below_ok code d 9 hb) ?_ ?_ ?_ ?_ ?_ ?_) ?_
    any_goals (first | omega | (simp [nilL, nilV]; done) | (simp [nilL, nilV, *]; done))
    try simp only [go_sem, qA, qB, qC, qD, qE, qF, qG, qH]
    repeat (refine ⟨(by first | omega | (simp [-gD]; first | done | omega)), ?_⟩)
    try simp only [go_sem, qA, qB, qC, qD, qE, qF, qG, qH]
    repeat (refine ⟨(by first | omega | (simp [-gD]; first | done | omega)), ?_⟩)
    apply fin_one
    · exact Sub.refl _
    · simp [-List.drop_one, -gD, insC] <;> (first | rfl | exact ⟨rfl, rfl⟩ | exact ⟨rfl, rfl, rfl⟩ | skip)
  by_cases h1 : k = 1
  · subst h1
    try simp only [go_sem, qA, qB, qC, qD, qE, qF, qG, qH, reduceCtorEq]
    repeat (refine ⟨(by first | omega | (simp [-gD]; first | done | omega)), ?_⟩)
    refine calls_intro (call_ok0 [(0, 0)] (l1Below_ok code d 9 hb) ?_ ?_ ?_ ?_ ?_ ?_) ?_
    any_goals (first | omega | (simp [nilL, nilV]; done) | (simp [nilL, nilV, *]; done))
    try simp only [go_sem, qA, qB, qC, qD, qE, qF, qG, qH]
    repeat (refine ⟨(by first | omega | (simp [-gD]; first | done | omega)), ?_⟩)
    try simp only [go_sem, qA, qB, qC, qD, qE, qF, qG, qH]
    repeat (refine ⟨(by first | omega | (simp [-gD]; first | done | omega)), ?_⟩)
    apply fin_one
    · exact Sub.refl _
    · simp [-List.drop_one, -gD, insC] <;> (first | rfl | exact ⟨rfl, rfl⟩ | exact ⟨rfl, rfl, rfl⟩ | skip)
  by_cases h2 : k = 2
  · subst h2
    try simp only [go_sem, qA, qB, qC, qD, qE, qF, qG, qH, reduceCtorEq]
    repeat (refine ⟨(by first | omega | (simp [-gD]; first | done | omega)), ?_⟩)
    refine calls_intro (call_ok0 [(0, 0)] (l1Below_ok code d 3 hb) ?_ ?_ ?_ ?_ ?_ ?_) ?_
    any_goals (first | omega | (simp [nilL, nilV]; done) | (simp [nilL, nilV, *]; done))
    try simp only [go_sem, qA, qB, qC, qD, qE, qF, qG, qH]
    repeat (refine ⟨(by first | omega | (simp [-gD]; first | done | omega)), ?_⟩)
    try simp only [go_sem, qA, qB, qC, qD, qE, qF, qG, qH]
    repeat (refine ⟨(by first | omega | (simp [-gD]; first | done | omega)), ?_⟩)
    apply fin_one
    · exact Sub.refl _
    · simp [-List.drop_one, -gD, insC] <;> (first | rfl | exact ⟨rfl, rfl⟩ | exact ⟨rfl, rfl, rfl⟩ | skip)
  by_cases h3 : k = 3
  · subst h3
    try simp only [go_sem, qA, qB, qC, qD, qE, qF, qG, qH, reduceCtorEq]
    repeat (refine ⟨(by first | omega | (simp [-gD]; first | done | omega)), ?_⟩)
    refine calls_intro (call_ok0 [(0, 0)] (l1Below_ok code d 3 hb) ?_ ?_ ?_ ?_ ?_ ?_) ?_
    any_goals (first | omega | (simp [nilL, nilV]; done) | (simp [nilL, nilV, *]; done))
    try simp only [go_sem, qA, qB, qC, qD, qE, qF, qG, qH]
    repeat (refine ⟨(by first | omega | (simp [-gD]; first | done | omega)), ?_⟩)
    try simp only [go_sem, qA, qB, qC, qD, qE, qF, qG, qH]
    repeat (refine ⟨(by first | omega | (simp [-gD]; first | done | omega)), ?_⟩)
    apply fin_one
    · exact Sub.refl _
    · simp [-List.drop_one, -gD, insC] <;> (first | rfl | exact ⟨rfl, rfl⟩ | exact ⟨rfl, rfl, rfl⟩ | skip)
  by_cases h4 : k = 4
  · subst h4
    try simp only [go_sem, qA, qB, qC, qD, qE, qF, qG, qH, reduceCtorEq]
    repeat (refine ⟨(by first | omega | (simp [-gD]; first | done | omega)), ?_⟩)
    apply fin_one
    · exact Sub.refl _
    · simp [-List.drop_one, -gD, insC] <;> (first | rfl | exact ⟨rfl, rfl⟩ | exact ⟨rfl, rfl, rfl⟩ | skip)
  by_cases h5 : k = 5
  · subst h5
    try simp only [go_sem, qA, qB, qC, qD, qE, qF, qG, qH, reduceCtorEq]
    repeat (refine ⟨(by first | omega | (simp [-gD]; first | done | omega)), ?_⟩)
    apply fin_one
    · exact Sub.refl _
    · simp [-List.drop_one, -gD, insC] <;> (first | rfl | exact ⟨rfl, rfl⟩ | exact ⟨rfl, rfl, rfl⟩ | skip)
  by_cases h6 : k = 6
  · subst h6
    try simp only [go_sem, qA, qB, qC, qD, qE, qF, qG, qH, reduceCtorEq]
    repeat (refine ⟨(by first | omega | (simp [-gD]; first | done | omega)), ?_⟩)
    apply fin_one
    · exact Sub.refl _
    · simp [-List.drop_one, -gD, insC] <;> (first | rfl | exact ⟨rfl, rfl⟩ | exact ⟨rfl, rfl, rfl⟩ | skip)
  by_cases h7 : k = 7
  · subst h7
    try simp only [go_sem, qA, qB, qC, qD, qE, qF, qG, qH, reduceCtorEq]
    repeat (refine ⟨(by first | omega | (simp [-gD]; first | done | omega)), ?_⟩)
    apply fin_one
    · exact Sub.refl _
    · simp [-List.drop_one, -gD, insC] <;> (first | rfl | exact ⟨rfl, rfl⟩ | exact ⟨rfl, rfl, rfl⟩ | skip)
  by_cases h8 : k = 8
  · subst h8
    try simp only [go_sem, qA, qB, qC, qD, qE, qF, qG, qH, reduceCtorEq]
    repeat (refine ⟨(by first | omega | (simp [-gD]; first | done | omega)), ?_⟩)
    apply fin_one
    · exact Sub.refl _
    · simp [-List.drop_one, -gD, insC] <;> (first | rfl | exact ⟨rfl, rfl⟩ | exact ⟨rfl, rfl, rfl⟩ | skip)
  by_cases h9 : k = 9
  · subst h9
    try simp only [go_sem, qA, qB, qC, qD, qE, qF, qG, qH, reduceCtorEq]
    repeat (refine ⟨(by first | omega | (simp [-gD]; first | done | omega)), ?_⟩)
    apply fin_one
    · exact Sub.refl _
    · simp [-List.drop_one, -gD, insC] <;> (first | rfl | exact ⟨rfl, rfl⟩ | exact ⟨rfl, rfl, rfl⟩ | skip)
  by_cases h10 : k = 10
  · subst h10
    try simp only [go_sem, qA, qB, qC, qD, qE, qF, qG, qH, reduceCtorEq]
    repeat (refine ⟨(by first | omega | (simp [-gD]; first | done | omega)), ?_⟩)
    apply fin_one
    · exact Sub.refl _
    · simp [-List.drop_one, -gD, insC] <;> (first | rfl | exact ⟨rfl, rfl⟩ | exact ⟨rfl, rfl, rfl⟩ | skip)
  by_cases h11 : k = 11
  · subst h11
    try simp only [go_sem, qA, qB, qC, qD, qE, qF, qG, qH, reduceCtorEq]
    repeat (refine ⟨(by first | omega | (simp [-gD]; first | done | omega)), ?_⟩)
    apply fin_one
    · exact Sub.refl _
    · simp [-List.drop_one, -gD, insC] <;> (first | rfl | exact ⟨rfl, rfl⟩ | exact ⟨rfl, rfl, rfl⟩ | skip)
  by_cases h12 : k = 12
  · subst h12
    try simp only [go_sem, qA, qB, qC, qD, qE, qF, qG, qH, reduceCtorEq]
    repeat (refine ⟨(by first | omega | (simp [-gD]; first | done | omega)), ?_⟩)
    refine calls_intro (call_ok0 [(0, 0)] (l1Once_ok code d 3 hb) ?_ ?_ ?_ ?_ ?_ ?_) ?_
    any_goals (first | omega | (simp [nilL, nilV]; done) | (simp [nilL, nilV, *]; done))
    try simp only [go_sem, qA, qB, qC, qD, qE, qF, qG, qH]
    repeat (refine ⟨(by first | omega | (simp [-gD]; first | done | omega)), ?_⟩)
    cases ho : (onceF code d 3).1
    · try simp only [go_sem, qA, qB, qC, qD, qE, qF, qG, qH, ho]
      repeat (refine ⟨(by first | omega | (simp [-gD]; first | done | omega)), ?_⟩)
      refine calls_intro (call_ok0 [(0, 0)] (l1Below_ok code (onceF code d 3).2 places hb) ?_ ?_ ?_ ?_ ?_ ?_) ?_
      any_goals (first | omega | (simp [nilL, nilV]; done) | (simp [nilL, nilV, *]; done))
      try simp only [go_sem, qA, qB, qC, qD, qE, qF, qG, qH]
      repeat (refine ⟨(by first | omega | (simp [-gD]; first | done | omega)), ?_⟩)
      try simp only [go_sem, qA, qB, qC, qD, qE, qF, qG, qH]
      repeat (refine ⟨(by first | omega | (simp [-gD]; first | done | omega)), ?_⟩)
      apply fin_one
      · exact Sub.refl _
      · simp [-List.drop_one, -gD, ho] <;> (first | rfl | exact ⟨rfl, rfl⟩ | exact ⟨rfl, rfl, rfl⟩ | skip)
    · try simp only [go_sem, qA, qB, qC, qD, qE, qF, qG, qH, ho]
      repeat (refine ⟨(by first | omega | (simp [-gD]; first | done | omega)), ?_⟩)
      apply fin_one
      · exact Sub.refl _
      · simp [-List.drop_one, -gD, ho] <;> (first | rfl | exact ⟨rfl, rfl⟩ | exact ⟨rfl, rfl, rfl⟩ | skip)
  by_cases h13 : k = 13
  · subst h13
    try simp only [go_sem, qA, qB, qC, qD, qE, qF, qG, qH, reduceCtorEq]
    repeat (refine ⟨(by first | omega | (simp [-gD]; first | done | omega)), ?_⟩)
    refine calls_intro (call_ok0 [(0, 0)] (l1Below_ok code d places hb) ?_ ?_ ?_ ?_ ?_ ?_) ?_
    any_goals (first | omega | (simp [nilL, nilV]; done) | (simp [nilL, nilV, *]; done))
    try simp only [go_sem, qA, qB, qC, qD, qE, qF, qG, qH]
    repeat (refine ⟨(by first | omega | (simp [-gD]; first | done | omega)), ?_⟩)
    try simp only [go_sem, qA, qB, qC, qD, qE, qF, qG, qH]
    repeat (refine ⟨(by first | omega | (simp [-gD]; first | done | omega)), ?_⟩)
    apply fin_one
    · exact Sub.refl _
    · simp [-List.drop_one, -gD, insC] <;> (first | rfl | exact ⟨rfl, rfl⟩ | exact ⟨rfl, rfl, rfl⟩ | skip)
  try simp only [go_sem, qA, qB, qC, qD, qE, qF, qG, qH, h0, h1, h2, h3, h4, h5, h6, h7, h8, h9, h10, h11, h12, h13]
  repeat (refine ⟨(by first | omega | (simp [-gD]; first | done | omega)), ?_⟩)
  apply fin_one
  · exact Sub.refl _
  · simp [-List.drop_one, -gD, insC, h0, h1, h2, h3, h4, h5, h6, h7, h8, h9, h10, h11, h12, h13] <;> (first | rfl | exact ⟨rfl, rfl⟩ | exact ⟨rfl, rfl, rfl⟩ | skip)

def spoilAt (code : List Int) (k : Int) (c : Cur) (x : Ins) : Ins × Cur :=
  if k = 0 then (⟨IntKind.i64.wrap ((belowF code c 16).1 - 1), x.r, x.a, x.b, x.n⟩, (belowF code c 16).2)
  else if k = 1 then (⟨x.op, IntKind.i64.wrap ((belowF code c 6).1 - 1), x.a, x.b, x.n⟩, (belowF code c 6).2)
  else if k = 2 then (⟨x.op, x.r, IntKind.i64.wrap ((belowF code c 6).1 - 1), x.b, x.n⟩, (belowF code c 6).2)
  else if k = 3 then (⟨x.op, x.r, x.a, IntKind.i64.wrap ((belowF code c 6).1 - 1), x.n⟩, (belowF code c 6).2)
  else if k = 4 then (⟨x.op, x.r, x.a, x.b, (pickF code c [-1, 0, 3, 23, 24, 1000000000, 1000000001]).1⟩, (pickF code c [-1, 0, 3, 23, 24, 1000000000, 1000000001]).2)
  else (x, c)
def spoilF (code : List Int) (c : Cur) (x : Ins) : Ins × Cur := spoilAt code (belowF code c 8).1 (belowF code c 8).2 x

set_option maxHeartbeats 4000000 in
theorem l1Spoil_ok (code : List Int) (c : Cur) (x : Ins) (hb : code.length < 2 ^ 62) : CallOk Try.prog num 57 [.ptr 0 0 0, .agg (insC x)] [(0, some (3, [curC code c]), some (3, [curC code (spoilF code c x).2]))] (.agg (insC (spoilF code c x).1)) := by
  refine enter (m := m57) (f := 57) (fn := Try.f56) Try.func56 (by kernel_rfl) rfl c57 rfl (by simp [Try.f56]) (by simp [bnds, bnd, nf_sl, nf_int, nf_bool, nf_str, ints_bnd]) (by first | (simp [preH, hb_nil, hb_cons, ints_bnd]; done) | exact hb_cons _ _ _ _ ((hb_nil _).2 trivial) (by decide) (by simp [ints_bnd, bndr, bnds, bnd])) ?_
  unfold m57 spoilF
  simp only [go_sem, qA, qB, qC, qD, qE, qF, qG, qH]
  repeat (refine ⟨(by first | omega | (simp [-gD]; first | done | omega)), ?_⟩)
  refine calls_intro (call_ok0 [(0, 0)] (l1Below_ok code c 8 hb) ?_ ?_ ?_ ?_ ?_ ?_) ?_
  any_goals (first | omega | (simp [nilL, nilV]; done) | (simp [nilL, nilV, *]; done))
  try simp only [go_sem, qA, qB, qC, qD, qE, qF, qG, qH]
  repeat (refine ⟨(by first | omega | (simp [-gD]; first | done | omega)), ?_⟩)
  generalize belowF code c 8 = k
  try simp only [go_sem, qA, qB, qC, qD, qE, qF, qG, qH]
  repeat (refine ⟨(by first | omega | (simp [-gD]; first | done | omega)), ?_⟩)
  obtain ⟨k, d⟩ := k
  simp only
  unfold spoilAt
  by_cases h0 : k = 0
  · subst h0
    try simp only [go_sem, qA, qB, qC, qD, qE, qF, qG, qH, reduceCtorEq]
    repeat (refine ⟨(by first | omega | (simp [-gD]; first | done | omega)), ?_⟩)
    refine calls_intro (call_ok0 [(0, 0)] (l1Below_ok code d 16 hb) ?_ ?_ ?_ ?_ ?_ ?_) ?_
    any_goals (first | omega | (simp [nilL, nilV]; done) | (simp [nilL, nilV, *]; done))
    try simp only [go_sem, qA, qB, qC, qD, qE, qF, qG, qH]
    repeat (refine ⟨(by first | omega | (simp [-gD]; first | done | omega)), ?_⟩)
    try simp only [go_sem, qA, qB, qC, qD, qE, qF, qG, qH]
    repeat (refine ⟨(by first | omega | (simp [-gD]; first | done | omega)), ?_⟩)
    apply fin_one
    · exact Sub.refl _
    · simp [-List.drop_one, -gD, insC] <;> (first | rfl | exact ⟨rfl, rfl⟩ | exact ⟨rfl, rfl, rfl⟩ | skip)
  by_cases h1 : k = 1
  · subst h1
    try simp only [go_sem, qA, qB, qC, qD, qE, qF, qG, qH, reduceCtorEq]
    repeat (refine ⟨(by first | omega | (simp [-gD]; first | done | omega)), ?_⟩)
    refine calls_intro (call_ok0 [(0, 0)] (l1Below_ok code d 6 hb) ?_ ?_ ?_ ?_ ?_ ?_) ?_
    any_goals (first | omega | (simp [nilL, nilV]; done) | (simp [nilL, nilV, *]; done))
    try simp only [go_sem, qA, qB, qC, qD, qE, qF, qG, qH]
    repeat (refine ⟨(by first | omega | (simp [-gD]; first | done | omega)), ?_⟩)
    try simp only [go_sem, qA, qB, qC, qD, qE, qF, qG, qH]
    repeat (refine ⟨(by first | omega | (simp [-gD]; first | done | omega)), ?_⟩)
    apply fin_one
    · exact Sub.refl _
    · simp [-List.drop_one, -gD, insC] <;> (first | rfl | exact ⟨rfl, rfl⟩ | exact ⟨rfl, rfl, rfl⟩ | skip)
  by_cases h2 : k = 2
  · subst h2
    try simp only [go_sem, qA, qB, qC, qD, qE, qF, qG, qH, reduceCtorEq]
    repeat (refine ⟨(by first | omega | (simp [-gD]; first | done | omega)), ?_⟩)
    refine calls_intro (call_ok0 [(0, 0)] (l1Below_ok code d 6 hb) ?_ ?_ ?_ ?_ ?_ ?_) ?_
    any_goals (first | omega | (simp [nilL, nilV]; done) | (simp [nilL, nilV, *]; done))
    try simp only [go_sem, qA, qB, qC, qD, qE, qF, qG, qH]
    repeat (refine ⟨(by first | omega | (simp [-gD]; first | done | omega)), ?_⟩)
    try simp only [go_sem, qA, qB, qC, qD, qE, qF, qG, qH]
    repeat (refine ⟨(by first | omega | (simp [-gD]; first | done | omega)), ?_⟩)
    apply fin_one
    · exact Sub.refl _
    · simp [-List.drop_one, -gD, insC] <;> (first | rfl | exact ⟨rfl, rfl⟩ | exact ⟨rfl, rfl, rfl⟩ | skip)
  by_cases h3 : k = 3
  · subst h3
    try simp only [go_sem, qA, qB, qC, qD, qE, qF, qG, qH, reduceCtorEq]
    repeat (refine ⟨(by first | omega | (simp [-gD]; first | done | omega)), ?_⟩)
    refine calls_intro (call_ok0 [(0, 0)] (l1Below_ok code d 6 hb) ?_ ?_ ?_ ?_ ?_ ?_) ?_
    any_goals (first | omega | (simp [nilL, nilV]; done) | (simp [nilL, nilV, *]; done))
    try simp only [go_sem, qA, qB, qC, qD, qE, qF, qG, qH]
    repeat (refine ⟨(by first | omega | (simp [-gD]; first | done | omega)), ?_⟩)
    try simp only [go_sem, qA, qB, qC, qD, qE, qF, qG, qH]
    repeat (refine ⟨(by first | omega | (simp [-gD]; first | done | omega)), ?_⟩)
    apply fin_one
    · exact Sub.refl _
    · simp [-List.drop_one, -gD, insC] <;> (first | rfl | exact ⟨rfl, rfl⟩ | exact ⟨rfl, rfl, rfl⟩ | skip)
  by_cases h4 : k = 4
  · subst h4
    have hl : ints [-1, 0, 3, 23, 24, 1000000000, 1000000001] = [[AV.int .i64 (-1)], [.int .i64 0], [.int .i64 3], [.int .i64 23], [.int .i64 24], [.int .i64 1000000000], [.int .i64 1000000001]] := rfl
    try simp only [go_sem, qA, qB, qC, qD, qE, qF, qG, qH, reduceCtorEq, ← hl]
    repeat (refine ⟨(by first | omega | (simp [-gD]; first | done | omega)), ?_⟩)
    refine calls_intro (call_ok0 [(0, 0)] (l1PickInt_ok code d [-1, 0, 3, 23, 24, 1000000000, 1000000001] hb (by decide)) ?_ ?_ ?_ ?_ ?_ ?_) ?_
    any_goals (first | omega | (simp [nilL, nilV]; done) | (simp [nilL, nilV, *]; done))
    try simp only [go_sem, qA, qB, qC, qD, qE, qF, qG, qH]
    repeat (refine ⟨(by first | omega | (simp [-gD]; first | done | omega)), ?_⟩)
    try simp only [go_sem, qA, qB, qC, qD, qE, qF, qG, qH]
    repeat (refine ⟨(by first | omega | (simp [-gD]; first | done | omega)), ?_⟩)
    apply fin_one
    · exact Sub.refl _
    · simp [-List.drop_one, -gD, insC] <;> (first | rfl | exact ⟨rfl, rfl⟩ | exact ⟨rfl, rfl, rfl⟩ | skip)
  try simp only [go_sem, qA, qB, qC, qD, qE, qF, qG, qH, h0, h1, h2, h3, h4]
  repeat (refine ⟨(by first | omega | (simp [-gD]; first | done | omega)), ?_⟩)
  apply fin_one
  · exact Sub.refl _
  · simp [-List.drop_one, -gD, insC, h0, h1, h2, h3, h4] <;> (first | rfl | exact ⟨rfl, rfl⟩ | exact ⟨rfl, rfl, rfl⟩ | skip)

def manyF {β : Type} (step : Cur → β × Cur) : Nat → Cur → List β × Cur
  | 0, c => ([], c)
  | n + 1, c => ((manyF step n c).1 ++ [(step (manyF step n c).2).1], (step (manyF step n c).2).2)
@[simp] theorem manyF_length {β : Type} (step : Cur → β × Cur) (c : Cur) : ∀ (n : Nat), (manyF step n c).1.length = n
  | 0 => rfl
  | n + 1 => by simp [manyF, manyF_length step c n]
def bodyAt (code : List Int) (chans n m k : Int) (c : Cur) : List Ins × Cur :=
  if k = 0 then ([⟨1, 0, 0, 0, 3⟩, ⟨1, 1, 0, 0, 1⟩, ⟨5, 0, 0, 0, n⟩, ⟨3, 0, 0, 1, 0⟩, ⟨12, 0, 0, 0, 6⟩, ⟨11, 0, 0, 0, 2⟩, ⟨13, 0, 0, 0, 0⟩], c)
  else if k = 1 then ([⟨6, 0, 0, 1, n⟩, ⟨12, 0, 1, 0, 4⟩, ⟨10, 0, 0, 0, 0⟩, ⟨11, 0, 0, 0, 0⟩, ⟨13, 0, 0, 0, 0⟩], c)
  else if k = 2 then ([⟨6, 0, 0, 1, n⟩, ⟨2, 0, 0, 1, 0⟩, ⟨5, 0, 0, 0, m⟩, ⟨10, 0, 0, 0, 0⟩, ⟨11, 0, 0, 0, 0⟩], c)
  else if k = 3 then ([⟨1, 2, 0, 0, 5⟩, ⟨7, 3, 2, 0, n⟩, ⟨8, 0, 0, 1, m⟩, ⟨10, 0, 1, 0, 0⟩, ⟨2, 2, 2, 3, 0⟩, ⟨11, 0, 0, 0, 1⟩], c)
  else
    ((manyF (fun d => insF code d (2 + (belowF code c 9).1 + 1) chans) (2 + (belowF code c 9).1).toNat (belowF code c 9).2).1 ++ [⟨(pickF code (manyF (fun d => insF code d (2 + (belowF code c 9).1 + 1) chans) (2 + (belowF code c 9).1).toNat (belowF code c 9).2).2 [13, 11]).1, 0, 0, 0, 0⟩],
     (pickF code (manyF (fun d => insF code d (2 + (belowF code c 9).1 + 1) chans) (2 + (belowF code c 9).1).toNat (belowF code c 9).2).2 [13, 11]).2)
def bodyF2 (code : List Int) (chans n m : Int) (c : Cur) : List Ins × Cur := bodyAt code chans n m (belowF code c 5).1 (belowF code c 5).2
def bodyF (code : List Int) (c : Cur) (chans : Int) : List Ins × Cur :=
  bodyF2 code chans (belowF code c chans).1 (belowF code (belowF code c chans).2 chans).1 (belowF code (belowF code c chans).2 chans).2

theorem bodyF_length (code : List Int) (c : Cur) (chans : Int) : 1 ≤ (bodyF code c chans).1.length ∧ (bodyF code c chans).1.length ≤ 24 := by
  unfold bodyF bodyF2
  generalize belowF code (belowF code (belowF code c chans).2 chans).2 5 = k
  unfold bodyAt
  have h := belowF_in code k.2 9 (by omega)
  repeat' split
  all_goals first | (simp; done) | (simp; omega)

set_option maxHeartbeats 4000000 in
theorem l1DrawBody_ok (code : List Int) (c : Cur) (chans : Int) (hb : code.length < 2 ^ 62) : CallOk Try.prog num 77 [.ptr 0 0 0, .int .i64 chans] [(0, some (3, [curC code c]), some (3, [curC code (bodyF code c chans).2]))] (.sl .own 5 (inss (bodyF code c chans).1)) := by
  refine enter (m := m77) (f := 77) (fn := Try.f76) Try.func76 (by kernel_rfl) rfl c77 rfl (by simp [Try.f76]) (by simp [bnds, bnd, nf_sl, nf_int, nf_bool, nf_str, ints_bnd]) (by first | (simp [preH, hb_nil, hb_cons, ints_bnd]; done) | exact hb_cons _ _ _ _ ((hb_nil _).2 trivial) (by decide) (by simp [ints_bnd, bndr, bnds, bnd])) ?_
  unfold m77 bodyF
  simp only [go_sem, qA, qB, qC, qD, qE, qF, qG, qH]
  repeat (refine ⟨(by first | omega | (simp [-gD]; first | done | omega)), ?_⟩)
  refine calls_intro (call_ok0 [(0, 0)] (l1Below_ok code c chans hb) ?_ ?_ ?_ ?_ ?_ ?_) ?_
  any_goals (first | omega | (simp [nilL, nilV]; done) | (simp [nilL, nilV, *]; done))
  try simp only [go_sem, qA, qB, qC, qD, qE, qF, qG, qH]
  repeat (refine ⟨(by first | omega | (simp [-gD]; first | done | omega)), ?_⟩)
  generalize belowF code c chans = n
  try simp only [go_sem, qA, qB, qC, qD, qE, qF, qG, qH]
  repeat (refine ⟨(by first | omega | (simp [-gD]; first | done | omega)), ?_⟩)
  refine calls_intro (call_ok0 [(0, 0)] (l1Below_ok code n.2 chans hb) ?_ ?_ ?_ ?_ ?_ ?_) ?_
  any_goals (first | omega | (simp [nilL, nilV]; done) | (simp [nilL, nilV, *]; done))
  try simp only [go_sem, qA, qB, qC, qD, qE, qF, qG, qH]
  repeat (refine ⟨(by first | omega | (simp [-gD]; first | done | omega)), ?_⟩)
  generalize belowF code n.2 chans = m
  try simp only [go_sem, qA, qB, qC, qD, qE, qF, qG, qH]
  repeat (refine ⟨(by first | omega | (simp [-gD]; first | done | omega)), ?_⟩)
  unfold bodyF2
  refine calls_intro (call_ok0 [(0, 0)] (l1Below_ok code m.2 5 hb) ?_ ?_ ?_ ?_ ?_ ?_) ?_
  any_goals (first | omega | (simp [nilL, nilV]; done) | (simp [nilL, nilV, *]; done))
  try simp only [go_sem, qA, qB, qC, qD, qE, qF, qG, qH]
  repeat (refine ⟨(by first | omega | (simp [-gD]; first | done | omega)), ?_⟩)
  generalize belowF code m.2 5 = k
  try simp only [go_sem, qA, qB, qC, qD, qE, qF, qG, qH]
  repeat (refine ⟨(by first | omega | (simp [-gD]; first | done | omega)), ?_⟩)
  obtain ⟨k, d⟩ := k
  simp only
  unfold bodyAt
  by_cases h0 : k = 0
  · subst h0
    try simp only [go_sem, qA, qB, qC, qD, qE, qF, qG, qH, reduceCtorEq]
    repeat (refine ⟨(by first | omega | (simp [-gD]; first | done | omega)), ?_⟩)
    apply fin_one
    · exact Sub.refl _
    · simp [-List.drop_one, -gD, inss, insC] <;> (first | rfl | exact ⟨rfl, rfl⟩ | exact ⟨rfl, rfl, rfl⟩ | skip)
  by_cases h1 : k = 1
  · subst h1
    try simp only [go_sem, qA, qB, qC, qD, qE, qF, qG, qH, reduceCtorEq]
    repeat (refine ⟨(by first | omega | (simp [-gD]; first | done | omega)), ?_⟩)
    apply fin_one
    · exact Sub.refl _
    · simp [-List.drop_one, -gD, inss, insC] <;> (first | rfl | exact ⟨rfl, rfl⟩ | exact ⟨rfl, rfl, rfl⟩ | skip)
  by_cases h2 : k = 2
  · subst h2
    try simp only [go_sem, qA, qB, qC, qD, qE, qF, qG, qH, reduceCtorEq]
    repeat (refine ⟨(by first | omega | (simp [-gD]; first | done | omega)), ?_⟩)
    apply fin_one
    · exact Sub.refl _
    · simp [-List.drop_one, -gD, inss, insC] <;> (first | rfl | exact ⟨rfl, rfl⟩ | exact ⟨rfl, rfl, rfl⟩ | skip)
  by_cases h3 : k = 3
  · subst h3
    try simp only [go_sem, qA, qB, qC, qD, qE, qF, qG, qH, reduceCtorEq]
    repeat (refine ⟨(by first | omega | (simp [-gD]; first | done | omega)), ?_⟩)
    apply fin_one
    · exact Sub.refl _
    · simp [-List.drop_one, -gD, inss, insC] <;> (first | rfl | exact ⟨rfl, rfl⟩ | exact ⟨rfl, rfl, rfl⟩ | skip)
  simp only [if_neg h0, if_neg h1, if_neg h2, if_neg h3]
  try simp only [go_sem, qA, qB, qC, qD, qE, qF, qG, qH, h0, h1, h2, h3]
  repeat (refine ⟨(by first | omega | (simp [-gD]; first | done | omega)), ?_⟩)
  refine calls_intro (call_ok0 [(0, 0)] (l1Below_ok code d 9 hb) ?_ ?_ ?_ ?_ ?_ ?_) ?_
  any_goals (first | omega | (simp [nilL, nilV]; done) | (simp [nilL, nilV, *]; done))
  try simp only [go_sem, qA, qB, qC, qD, qE, qF, qG, qH]
  repeat (refine ⟨(by first | omega | (simp [-gD]; first | done | omega)), ?_⟩)
  have hr := belowF_in code d 9 (by omega)
  generalize belowF code d 9 = r at hr
  obtain ⟨r, e⟩ := r
  simp only at hr ⊢
  have w1 : IntKind.i64.wrap (2 + r) = 2 + r := wrap64 (by omega) (by omega)
  have w2 : IntKind.i64.wrap (2 + r + 1) = 2 + r + 1 := wrap64 (by omega) (by omega)
  try simp only [go_sem, qA, qB, qC, qD, qE, qF, qG, qH, w1]
  repeat (refine ⟨(by first | omega | (simp [-gD]; first | done | omega)), ?_⟩)
  refine loop_intro (ι := Nat) (fun i => .mk [(0, .ptr 0 0 0), (1, .int .i64 chans), (7, .int .i64 (2 + r)), (8, .ns 10 0 i), (9, .int .i64 i)] [(0, 3, [curC code (manyF (fun d => insF code d (2 + r + 1) chans) i e).2]), (10, 5, inss (manyF (fun d => insF code d (2 + r + 1) chans) i e).1)] 11) (fun i => i ≤ (2 + r).toNat) (fun i => (2 + r).toNat - i) 0 (by simp) ?_ ?_
  · refine Sub.shape [] id (by omega) ?_ ?_ ?_ ?_ <;> simp [ints_rep]
    all_goals simp [manyF, inss]
  · intro i hi
    simp only [go_sem, qA, qB, qC, qD, qE, qF, qG, qH]
    refine branch_intro (fun hc => ?_) (fun hc => ?_)
    · simp only [decide_eq_true_eq] at hc
      simp only [go_sem, qA, qB, qC, qD, qE, qF, qG, qH, w2, wrap_succ (i := i) (by omega)]
      repeat (refine ⟨(by first | omega | (simp [-gD]; first | done | omega)), ?_⟩)
      refine calls_intro (call_ok0 [(0, 0)] (l1DrawIns_ok code (manyF (fun d => insF code d (2 + r + 1) chans) i e).2 (2 + r + 1) chans hb) ?_ ?_ ?_ ?_ ?_ ?_) ?_
      any_goals (first | omega | (simp [nilL, nilV]; done) | (simp [nilL, nilV, *]; done))
      try simp only [go_sem, qA, qB, qC, qD, qE, qF, qG, qH]
      repeat (refine ⟨(by first | omega | (simp [-gD]; first | done | omega)), ?_⟩)
      try simp only [go_sem, qA, qB, qC, qD, qE, qF, qG, qH, wrap_succ (i := i) (by omega), manyF_length]
      repeat (refine ⟨(by first | omega | (simp [-gD]; first | done | omega)), ?_⟩)
      refine back_intro (i + 1) ?_ (by omega) (by omega)
      simp only [manyF]
      refine Sub.shape [] (fun n => if n = 10 then 12 else n) (by omega) ?_ ?_ ?_ ?_ <;> simp [ints_rep]
      exact .inl (by simp [inss, insC])
    · simp only [decide_eq_false_iff_not] at hc
      have hie : i = (2 + r).toNat := by omega
      subst hie
      have hl : ints [13, 11] = [[AV.int .i64 13], [.int .i64 11]] := rfl
      simp only [go_sem, qA, qB, qC, qD, qE, qF, qG, qH, ← hl]
      repeat (refine ⟨(by first | omega | (simp [-gD]; first | done | omega)), ?_⟩)
      refine calls_intro (call_ok0 [(0, 0)] (l1PickInt_ok code (manyF (fun d => insF code d (2 + r + 1) chans) (2 + r).toNat e).2 [13, 11] hb (by decide)) ?_ ?_ ?_ ?_ ?_ ?_) ?_
      any_goals (first | omega | (simp [nilL, nilV]; done) | (simp [nilL, nilV, *]; done))
      try simp only [go_sem, qA, qB, qC, qD, qE, qF, qG, qH]
      repeat (refine ⟨(by first | omega | (simp [-gD]; first | done | omega)), ?_⟩)
      try simp only [go_sem, qA, qB, qC, qD, qE, qF, qG, qH, manyF_length]
      repeat (refine ⟨(by first | omega | (simp [-gD]; first | done | omega)), ?_⟩)
      apply fin_one
      · exact Sub.refl _
      · simp [-List.drop_one, -gD, insC, inss] <;> (first | rfl | exact ⟨rfl, rfl⟩ | exact ⟨rfl, rfl, rfl⟩ | skip)

/-- A loop whose bound is drawn anew each time. -/
def drawsF {β : Type} (code : List Int) (base m : Int) (step : Cur → β × Cur) : Nat → Nat → Cur → List β → List β × Cur
  | 0, _, c, acc => (acc, (belowF code c m).2)
  | f + 1, i, c, acc => if (i : Int) < base + (belowF code c m).1 then drawsF code base m step f (i + 1) (step (belowF code c m).2).2 (acc ++ [(step (belowF code c m).2).1]) else (acc, (belowF code c m).2)
theorem drawsF_go {β : Type} {code : List Int} {base m : Int} {step : Cur → β × Cur} {N i : Nat} {c : Cur} {acc : List β} (hi : i < N) (h : (i : Int) < base + (belowF code c m).1) :
    drawsF code base m step (N - i) i c acc = drawsF code base m step (N - (i + 1)) (i + 1) (step (belowF code c m).2).2 (acc ++ [(step (belowF code c m).2).1]) := by
  have : N - i = (N - (i + 1)) + 1 := by omega
  rw [this]
  simp only [drawsF, if_pos h]
theorem drawsF_stop {β : Type} {code : List Int} {base m : Int} {step : Cur → β × Cur} {f i : Nat} {c : Cur} {acc : List β} (h : ¬ (i : Int) < base + (belowF code c m).1) :
    drawsF code base m step f i c acc = (acc, (belowF code c m).2) := by
  cases f with
  | zero => rfl
  | succ f => simp only [drawsF, if_neg h]
theorem drawsF_length {β : Type} {code : List Int} {base m : Int} {step : Cur → β × Cur} : ∀ (f i : Nat) (c : Cur) (acc : List β), acc.length ≤ (drawsF code base m step f i c acc).1.length ∧ (drawsF code base m step f i c acc).1.length ≤ acc.length + f
  | 0, _, _, acc => by simp [drawsF]
  | f + 1, i, c, acc => by
    simp only [drawsF]
    split
    · have := drawsF_length (code := code) (base := base) (m := m) (step := step) f (i + 1) (step (belowF code c m).2).2 (acc ++ [(step (belowF code c m).2).1])
      simp only [List.length_append, List.length_cons, List.length_nil] at this
      omega
    · simp
theorem drawsF_pos {β : Type} {code : List Int} {base m : Int} {step : Cur → β × Cur} (f : Nat) (c : Cur) (hb : 0 < base) (hm : 0 < m) : 1 ≤ (drawsF code base m step (f + 1) 0 c []).1.length := by
  have := belowF_in code c m hm
  simp only [drawsF]
  rw [if_pos (by omega)]
  have h2 := (drawsF_length (code := code) (base := base) (m := m) (step := step) f (0 + 1) (step (belowF code c m).2).2 ([] ++ [(step (belowF code c m).2).1])).1
  simpa using h2
theorem drawsF_all {β : Type} {code : List Int} {base m : Int} {step : Cur → β × Cur} {Q : β → Prop} (hs : ∀ c, Q (step c).1) : ∀ (f i : Nat) (c : Cur) (acc : List β), (∀ x ∈ acc, Q x) → ∀ x ∈ (drawsF code base m step f i c acc).1, Q x
  | 0, _, _, acc, h => h
  | f + 1, i, c, acc, h => by
    simp only [drawsF]
    split
    · refine drawsF_all hs f (i + 1) _ _ fun x hx => ?_
      rcases List.mem_append.1 hx with hx | hx
      · exact h x hx
      · rw [List.mem_singleton.1 hx]
        exact hs _
    · exact h

def capsF (code : List Int) (n : Nat) (c : Cur) : List Int × Cur := manyF (fun d => (IntKind.i64.wrap (1 + (belowF code d 4).1), (belowF code d 4).2)) n c
def rightF2 (code : List Int) (n : Int) (c : Cur) : Prog × Cur :=
  (⟨(capsF code n.toNat c).1, (drawsF code 1 4 (fun d => bodyF code d n) 4 0 (capsF code n.toNat c).2 []).1⟩, (drawsF code 1 4 (fun d => bodyF code d n) 4 0 (capsF code n.toNat c).2 []).2)
def rightF (code : List Int) (c : Cur) : Prog × Cur := rightF2 code (1 + (belowF code c 3).1) (belowF code c 3).2

theorem capsF_length (code : List Int) (n : Nat) (c : Cur) : (capsF code n c).1.length = n := manyF_length _ _ _
theorem ints_snoc (l : List Int) (n : Int) : ints l ++ [[.int .i64 n]] = ints (l ++ [n]) := by simp [ints]
theorem bodies_snoc (l : List (List Ins)) (b : List Ins) : bodies .own l ++ [[.sl .own 5 (inss b)]] = bodies .own (l ++ [b]) := by simp [bodies]

set_option maxHeartbeats 4000000 in
theorem l1DrawRight_ok (code : List Int) (c : Cur) (hb : code.length < 2 ^ 62) : CallOk Try.prog num 55 [.ptr 0 0 0] [(0, some (3, [curC code c]), some (3, [curC code (rightF code c).2]))] (.agg (progC .own (rightF code c).1)) := by
  refine enter (m := m55) (f := 55) (fn := Try.f54) Try.func54 (by kernel_rfl) rfl c55 rfl (by simp [Try.f54]) (by simp [bnds, bnd, nf_sl, nf_int, nf_bool, nf_str, ints_bnd]) (by first | (simp [preH, hb_nil, hb_cons, ints_bnd]; done) | exact hb_cons _ _ _ _ ((hb_nil _).2 trivial) (by decide) (by simp [ints_bnd, bndr, bnds, bnd])) ?_
  unfold m55 rightF
  simp only [go_sem, qA, qB, qC, qD, qE, qF, qG, qH]
  repeat (refine ⟨(by first | omega | (simp [-gD]; first | done | omega)), ?_⟩)
  refine calls_intro (call_ok0 [(0, 0)] (l1Below_ok code c 3 hb) ?_ ?_ ?_ ?_ ?_ ?_) ?_
  any_goals (first | omega | (simp [nilL, nilV]; done) | (simp [nilL, nilV, *]; done))
  try simp only [go_sem, qA, qB, qC, qD, qE, qF, qG, qH]
  repeat (refine ⟨(by first | omega | (simp [-gD]; first | done | omega)), ?_⟩)
  have hn := belowF_in code c 3 (by omega)
  generalize belowF code c 3 = r at hn
  obtain ⟨r, d⟩ := r
  simp only at hn ⊢
  have w1 : IntKind.i64.wrap (1 + r) = 1 + r := wrap64 (by omega) (by omega)
  try simp only [go_sem, qA, qB, qC, qD, qE, qF, qG, qH, w1]
  repeat (refine ⟨(by first | omega | (simp [-gD]; first | done | omega)), ?_⟩)
  obtain ⟨n, hn2⟩ := Int.eq_ofNat_of_zero_le (show 0 ≤ 1 + r by omega)
  rw [hn2]
  unfold rightF2
  refine loop_intro (ι := Nat) (fun i => .mk [(0, .ptr 0 0 0), (2, .ptr 10 0 0), (3, .ptr 11 0 0), (4, .int .i64 n), (5, .int .i64 i)] [(0, 3, [curC code (capsF code i d).2]), (10, 2, [[.nil, .nil]]), (11, 2, [[.sl .own 1 (ints (capsF code i d).1), .nil]])] 12) (fun i => i ≤ n) (fun i => n - i) 0 (by simp) ?_ ?_
  · refine Sub.shape [] id (by omega) ?_ ?_ ?_ ?_ <;> simp [ints_rep]
    all_goals simp [capsF, manyF, ints_nil]
  · intro i hi
    have hcl := capsF_length code i d
    simp only [go_sem, qA, qB, qC, qD, qE, qF, qG, qH]
    refine branch_intro (fun hc => ?_) (fun hc => ?_)
    · simp only [decide_eq_true_eq] at hc
      simp only [go_sem, qA, qB, qC, qD, qE, qF, qG, qH, wrap_succ (i := i) (by omega), hcl]
      repeat (refine ⟨(by first | omega | (simp [-gD]; first | done | omega)), ?_⟩)
      refine dcall_intro (call_ok0 [(0, 0)] (l1Below_ok code (capsF code i d).2 4 hb) ?_ ?_ ?_ ?_ ?_ ?_) ?_ ?_
      any_goals (first | omega | (simp [nilL, nilV]; done) | (simp [nilL, nilV, *]; done))
      try simp only [go_sem, qA, qB, qC, qD, qE, qF, qG, qH]
      repeat (refine ⟨(by first | omega | (simp [-gD]; first | done | omega)), ?_⟩)
      try simp only [go_sem, qA, qB, qC, qD, qE, qF, qG, qH, wrap_succ (i := i) (by omega), hcl]
      repeat (refine ⟨(by first | omega | (simp [-gD]; first | done | omega)), ?_⟩)
      refine back_intro (i + 1) ?_ (by omega) (by omega)
      have hs : capsF code (i + 1) d = ((capsF code i d).1 ++ [IntKind.i64.wrap (1 + (belowF code (capsF code i d).2 4).1)], (belowF code (capsF code i d).2 4).2) := rfl
      refine Sub.trans (Sub.fold1 11 0 14 rfl (by simp [-gD] <;> omega) rfl (by decide) (by decide) rfl) ?_
      simp only [fS, qA, qC, ints_snoc, hcl]
      rw [hs]
      refine Sub.shape [] id (by omega) ?_ ?_ ?_ ?_ <;> simp [ints_rep]
    · simp only [decide_eq_false_iff_not] at hc
      have hie : i = n := by omega
      subst hie
      simp only [go_sem, qA, qB, qC, qD, qE, qF, qG, qH]
      repeat (refine ⟨(by first | omega | (simp [-gD]; first | done | omega)), ?_⟩)
      try simp only [Int.toNat_natCast]
      obtain ⟨p, hp⟩ : ∃ p, capsF code i d = p := ⟨_, rfl⟩
      obtain ⟨cs, e⟩ := p
      rw [hp] at hcl ⊢
      simp only at hcl ⊢
      refine loop_intro (ι := Nat × Cur × List (List Ins)) (fun s => .mk [(0, .ptr 0 0 0), (2, .ptr 10 0 0), (3, .ptr 11 0 0), (4, .int .i64 i), (6, .int .i64 s.1)] [(0, 3, [curC code s.2.1]), (10, 2, [[.nil, .nil]]), (11, 2, [[.sl .own 1 (ints cs), .sl .own 1 (bodies .own s.2.2)]])] 12) (fun s => s.1 ≤ 4 ∧ s.2.2.length = s.1 ∧ drawsF code 1 4 (fun d => bodyF code d i) (4 - s.1) s.1 s.2.1 s.2.2 = drawsF code 1 4 (fun d => bodyF code d i) 4 0 e []) (fun s => 4 - s.1) (0, e, []) ⟨by simp, rfl, rfl⟩ ?_ ?_
      · refine Sub.shape [] id (by omega) ?_ ?_ ?_ ?_ <;> simp [ints_rep]
      · rintro ⟨j, f, acc⟩ ⟨hj, hl, hd⟩
        simp only at hj hl hd ⊢
        simp only [go_sem, qA, qB, qC, qD, qE, qF, qG, qH]
        refine calls_intro (call_ok0 [(0, 0)] (l1Below_ok code f 4 hb) ?_ ?_ ?_ ?_ ?_ ?_) ?_
        any_goals (first | omega | (simp [nilL, nilV]; done) | (simp [nilL, nilV, *]; done))
        try simp only [go_sem, qA, qB, qC, qD, qE, qF, qG, qH]
        repeat (refine ⟨(by first | omega | (simp [-gD]; first | done | omega)), ?_⟩)
        have hr := belowF_in code f 4 (by omega)
        have w2 : IntKind.i64.wrap (1 + (belowF code f 4).1) = 1 + (belowF code f 4).1 := wrap64 (by omega) (by omega)
        try simp only [go_sem, qA, qB, qC, qD, qE, qF, qG, qH, w2]
        repeat (refine ⟨(by first | omega | (simp [-gD]; first | done | omega)), ?_⟩)
        refine branch_intro (fun hc => ?_) (fun hc => ?_)
        · simp only [decide_eq_true_eq] at hc
          have hg := drawsF_go (code := code) (base := 1) (m := 4) (step := fun d => bodyF code d i) (N := 4) (i := j) (c := f) (acc := acc) (by omega) hc
          rw [hg] at hd
          try simp only at hd
          simp only [go_sem, qA, qB, qC, qD, qE, qF, qG, qH, wrap_succ (i := j) (by omega), hl]
          repeat (refine ⟨(by first | omega | (simp [-gD]; first | done | omega)), ?_⟩)
          refine dcall_intro (call_ok0 [(0, 0)] (l1DrawBody_ok code (belowF code f 4).2 i hb) ?_ ?_ ?_ ?_ ?_ ?_) ?_ ?_
          any_goals (first | omega | (simp [nilL, nilV]; done) | (simp [nilL, nilV, *]; done))
          try simp only [go_sem, qA, qB, qC, qD, qE, qF, qG, qH]
          repeat (refine ⟨(by first | omega | (simp [-gD]; first | done | omega)), ?_⟩)
          try simp only [go_sem, qA, qB, qC, qD, qE, qF, qG, qH, wrap_succ (i := j) (by omega), hl]
          repeat (refine ⟨(by first | omega | (simp [-gD]; first | done | omega)), ?_⟩)
          refine back_intro (j + 1, (bodyF code (belowF code f 4).2 i).2, acc ++ [(bodyF code (belowF code f 4).2 i).1]) ?_ ⟨by simp only; omega, by simp only [List.length_append, hl]; rfl, hd⟩ (by simp only; omega)
          refine Sub.trans (Sub.foldLast 15 0 13 rfl (by simp [-gD] <;> omega) rfl (by decide) (by decide) rfl) ?_
          simp only [fS, qA, qC, bodies_snoc]
          refine Sub.trans (Sub.fold1 11 1 15 rfl (by simp [-gD] <;> omega) rfl (by decide) (by decide) rfl) ?_
          simp only [fS, qA, qC, hl]
          refine Sub.shape [] id (by omega) ?_ ?_ ?_ ?_ <;> simp [ints_rep]
        · simp only [decide_eq_false_iff_not] at hc
          rw [drawsF_stop hc] at hd
          simp only [go_sem, qA, qB, qC, qD, qE, qF, qG, qH]
          repeat (refine ⟨(by first | omega | (simp [-gD]; first | done | omega)), ?_⟩)
          rw [← hd]
          apply fin_one
          · exact Sub.refl _
          · simp [-List.drop_one, -gD, ] <;> (first | rfl | exact ⟨rfl, rfl⟩ | exact ⟨rfl, rfl, rfl⟩ | skip)

theorem rightF_ok (code : List Int) (c : Cur) : 1 ≤ (rightF code c).1.caps.length ∧ (rightF code c).1.caps.length ≤ 3 ∧ 1 ≤ (rightF code c).1.bods.length ∧ (rightF code c).1.bods.length ≤ 4 ∧ ∀ b ∈ (rightF code c).1.bods, 1 ≤ b.length ∧ b.length ≤ 24 := by
  unfold rightF
  have hn := belowF_in code c 3 (by omega)
  generalize belowF code c 3 = r at hn
  obtain ⟨r, d⟩ := r
  simp only at hn ⊢
  unfold rightF2
  have h1 := capsF_length code (1 + r).toNat d
  generalize capsF code (1 + r).toNat d = p at h1
  obtain ⟨cs, e⟩ := p
  simp only at h1 ⊢
  refine ⟨by omega, by omega, drawsF_pos 3 e (by omega) (by omega), ?_, drawsF_all (Q := fun (b : List Ins) => 1 ≤ b.length ∧ b.length ≤ 24) (fun c => bodyF_length code c (1 + r)) 4 0 e [] (by simp)⟩
  exact (drawsF_length 4 0 e []).2

def drawAt (code : List Int) (k : Int) (c : Cur) (p : Prog) : Prog × Cur :=
  if k = 0 then (⟨p.caps.set 0 (pickF code c [0, 5]).1, p.bods⟩, (pickF code c [0, 5]).2)
  else if k = 1 then (⟨p.caps, p.bods.set 0 ((p.bods.getD 0 []).set 0 (spoilF code c ((p.bods.getD 0 []).getD 0 default)).1)⟩, (spoilF code c ((p.bods.getD 0 []).getD 0 default)).2)
  else if k = 2 then (⟨p.caps, []⟩, c)
  else if k = 3 then (⟨p.caps ++ [1, 1, 1], p.bods⟩, c)
  else (p, c)
def drawF2 (code : List Int) (r : Prog × Cur) : Prog × Cur := drawAt code (belowF code r.2 20).1 (belowF code r.2 20).2 r.1
def drawF (code : List Int) (c : Cur) : Prog × Cur := drawF2 code (rightF code c)

theorem drawF_small (code : List Int) (c : Cur) : (drawF code c).1.caps.length ≤ 6 ∧ (drawF code c).1.bods.length ≤ 4 ∧ ∀ b ∈ (drawF code c).1.bods, b.length ≤ 24 := by
  unfold drawF drawF2
  obtain ⟨h1, h2, h3, h4, h5⟩ := rightF_ok code c
  generalize rightF code c = r at *
  obtain ⟨p, d⟩ := r
  simp only at *
  generalize belowF code d 20 = k
  unfold drawAt
  repeat' split
  · exact ⟨by simp; omega, h4, fun b hb => (h5 b hb).2⟩
  · refine ⟨by simp only; omega, by simp; omega, fun b hb => ?_⟩
    simp only at hb
    rcases List.mem_or_eq_of_mem_set hb with hb | hb
    · exact (h5 b hb).2
    · rw [hb, List.length_set]
      exact (h5 _ (getD_mem p.bods 0 [] (by omega))).2
  · exact ⟨by simp only; omega, by simp, fun b hb => by simp at hb⟩
  · exact ⟨by simp; omega, h4, fun b hb => (h5 b hb).2⟩
  · exact ⟨by simp only; omega, h4, fun b hb => (h5 b hb).2⟩

set_option maxHeartbeats 4000000 in
theorem l1Draw_ok (code : List Int) (c : Cur) (hb : code.length < 2 ^ 62) : CallOk Try.prog num 38 [.ptr 0 0 0] [(0, some (3, [curC code c]), some (3, [curC code (drawF code c).2]))] (.agg (progC .own (drawF code c).1)) := by
  refine enter (m := m38) (f := 38) (fn := Try.f37) Try.func37 (by kernel_rfl) rfl c38 rfl (by simp [Try.f37]) (by simp [bnds, bnd, nf_sl, nf_int, nf_bool, nf_str, ints_bnd]) (by first | (simp [preH, hb_nil, hb_cons, ints_bnd]; done) | exact hb_cons _ _ _ _ ((hb_nil _).2 trivial) (by decide) (by simp [ints_bnd, bndr, bnds, bnd])) ?_
  unfold m38 drawF
  simp only [go_sem, qA, qB, qC, qD, qE, qF, qG, qH]
  repeat (refine ⟨(by first | omega | (simp [-gD]; first | done | omega)), ?_⟩)
  refine calls_intro (call_ok0 [(0, 0)] (l1DrawRight_ok code c hb) ?_ ?_ ?_ ?_ ?_ ?_) ?_
  any_goals (first | omega | (simp [nilL, nilV]; done) | (simp [nilL, nilV, *]; done))
  try simp only [go_sem, qA, qB, qC, qD, qE, qF, qG, qH]
  repeat (refine ⟨(by first | omega | (simp [-gD]; first | done | omega)), ?_⟩)
  obtain ⟨g1, g2, g3, g4, g5⟩ := rightF_ok code c
  generalize rightF code c = r at *
  obtain ⟨p, d⟩ := r
  simp only at *
  have g6 := g5 _ (getD_mem p.bods 0 [] (by omega))
  try simp only [go_sem, qA, qB, qC, qD, qE, qF, qG, qH]
  repeat (refine ⟨(by first | omega | (simp [-gD]; first | done | omega)), ?_⟩)
  unfold drawF2
  refine calls_intro (call_ok0 [(0, 0)] (l1Below_ok code d 20 hb) ?_ ?_ ?_ ?_ ?_ ?_) ?_
  any_goals (first | omega | (simp [nilL, nilV]; done) | (simp [nilL, nilV, *]; done))
  try simp only [go_sem, qA, qB, qC, qD, qE, qF, qG, qH]
  repeat (refine ⟨(by first | omega | (simp [-gD]; first | done | omega)), ?_⟩)
  try simp only [go_sem, qA, qB, qC, qD, qE, qF, qG, qH]
  repeat (refine ⟨(by first | omega | (simp [-gD]; first | done | omega)), ?_⟩)
  generalize belowF code d 20 = k
  obtain ⟨k, d⟩ := k
  simp only
  unfold drawAt
  by_cases h0 : k = 0
  · subst h0
    have hl : ints [0, 5] = [[AV.int .i64 0], [.int .i64 5]] := rfl
    have h0 := ints_getD p.caps 0 (by omega)
    try simp only [go_sem, qA, qB, qC, qD, qE, qF, qG, qH, reduceCtorEq, ← hl, h0]
    repeat (refine ⟨(by first | omega | (simp [-gD]; first | done | omega)), ?_⟩)
    refine dcall_intro (call_ok0 [(0, 0)] (l1PickInt_ok code d [0, 5] hb (by decide)) ?_ ?_ ?_ ?_ ?_ ?_) ?_ ?_
    any_goals (first | omega | (simp [nilL, nilV]; done) | (simp [nilL, nilV, *]; done))
    try simp only [go_sem, qA, qB, qC, qD, qE, qF, qG, qH]
    repeat (refine ⟨(by first | omega | (simp [-gD]; first | done | omega)), ?_⟩)
    try simp only [go_sem, qA, qB, qC, qD, qE, qF, qG, qH, h0]
    repeat (refine ⟨(by first | omega | (simp [-gD]; first | done | omega)), ?_⟩)
    apply fin_one
    · exact Sub.refl _
    · simp [-List.drop_one, -gD, ] <;> (first | rfl | exact ⟨rfl, rfl⟩ | exact ⟨rfl, rfl, rfl⟩ | skip)
  by_cases h1 : k = 1
  · subst h1
    have hb0 := bodies_getD .own p.bods 0 (by omega)
    have gs : ∀ r, ((bodies .own p.bods).set 0 r).getD 0 [] = r := fun r => getD_set_self _ _ _ _ (by rw [bodies_length]; omega)
    have hx := inss_getD (p.bods.getD 0 []) 0 (by omega)
    try simp only [go_sem, qA, qB, qC, qD, qE, qF, qG, qH, reduceCtorEq, hb0, gs, hx]
    repeat (refine ⟨(by first | omega | (simp [-gD]; first | done | omega)), ?_⟩)
    refine dcall_intro (call_ok0 [(0, 0)] (l1Spoil_ok code d ((p.bods.getD 0 []).getD 0 default) hb) ?_ ?_ ?_ ?_ ?_ ?_) ?_ ?_
    any_goals (first | omega | (simp [nilL, nilV]; done) | (simp [nilL, nilV, *]; done))
    try simp only [go_sem, qA, qB, qC, qD, qE, qF, qG, qH]
    repeat (refine ⟨(by first | omega | (simp [-gD]; first | done | omega)), ?_⟩)
    try simp only [go_sem, qA, qB, qC, qD, qE, qF, qG, qH, hb0, gs, hx]
    repeat (refine ⟨(by first | omega | (simp [-gD]; first | done | omega)), ?_⟩)
    apply fin_one
    · refine Sub.trans (Sub.foldAt 12 0 14 rfl (by simp [-gD] <;> omega) rfl (by decide) (by decide) rfl (by simp <;> omega)) ?_
      simp only [fS, qA, qC, bodies_set]
      exact Sub.refl _
    · simp [-List.drop_one, -gD, ] <;> (first | rfl | exact ⟨rfl, rfl⟩ | exact ⟨rfl, rfl, rfl⟩ | skip)
  by_cases h2 : k = 2
  · subst h2
    try simp only [go_sem, qA, qB, qC, qD, qE, qF, qG, qH, reduceCtorEq]
    repeat (refine ⟨(by first | omega | (simp [-gD]; first | done | omega)), ?_⟩)
    apply fin_one
    · exact Sub.refl _
    · simp [-List.drop_one, -gD, bodies_nil] <;> (first | rfl | exact ⟨rfl, rfl⟩ | exact ⟨rfl, rfl, rfl⟩ | skip)
  by_cases h3 : k = 3
  · subst h3
    try simp only [go_sem, qA, qB, qC, qD, qE, qF, qG, qH, reduceCtorEq]
    repeat (refine ⟨(by first | omega | (simp [-gD]; first | done | omega)), ?_⟩)
    apply fin_one
    · exact Sub.refl _
    · simp [-List.drop_one, -gD, ints] <;> (first | rfl | exact ⟨rfl, rfl⟩ | exact ⟨rfl, rfl, rfl⟩ | skip)
  try simp only [go_sem, qA, qB, qC, qD, qE, qF, qG, qH, h0, h1, h2, h3]
  repeat (refine ⟨(by first | omega | (simp [-gD]; first | done | omega)), ?_⟩)
  apply fin_one
  · exact Sub.refl _
  · simp [-List.drop_one, -gD, h0, h1, h2, h3] <;> (first | rfl | exact ⟨rfl, rfl⟩ | exact ⟨rfl, rfl, rfl⟩ | skip)

theorem big_ok (code : List Int) : CallOk Try.prog num 19 [.sl .bw 1 (bys code)] [] (.bool (decide ((1048576 : Int) < code.length))) := by
  refine enter (m := m19) (f := 19) (fn := Try.f19) Try.func19 (by kernel_rfl) rfl c19 rfl (by simp [Try.f19]) (by simp [bnds, bnd, nf_sl, nf_int, nf_bool, nf_str, ints_bnd]) (fun _ _ h => by simp [preH, look] at h) ?_
  unfold m19
  simp only [go_sem, qA, qB, qC, qD, qE, qF, qG, qH]
  repeat (refine ⟨(by first | omega | (simp [-gD]; first | done | omega)), ?_⟩)
  refine ⟨_, Sub.refl _, ?_⟩; simp [FinS, nilL, nilV, oneOr, -List.drop_one]

theorem sameInts_ok (xs ys : List Int) (hx : xs.length ≤ 2 ^ 47) : CallOk Try.prog num 23 [.sl .bw 1 (ints xs), .sl .bw 1 (ints ys)] [] (.bool (decide (xs = ys))) := by
  refine enter (m := m23) (f := 23) (fn := Try.f23) Try.func23 (by kernel_rfl) rfl c23 rfl (by simp [Try.f23]) (by simp [bnds, bnd, nf_sl, nf_int, nf_bool, nf_str, ints_bnd]) (fun _ _ h => by simp [preH, look] at h) ?_
  unfold m23
  simp only [go_sem, qA, qB, qC, qD, qE, qF, qG, qH]
  repeat (refine ⟨(by first | omega | (simp [-gD]; first | done | omega)), ?_⟩)
  refine branch_intro (fun hc => ?_) (fun hc => ?_)
  · have hne : xs ≠ ys := fun he => by subst he; simp at hc
    simp only [go_sem, qA, qB, qC, qD, qE, qF, qG, qH]
    repeat (refine ⟨(by first | omega | (simp [-gD]; first | done | omega)), ?_⟩)
    refine ⟨_, Sub.refl _, ?_⟩; simp [FinS, nilL, nilV, oneOr, -List.drop_one]
    exact hne
  · have hl : xs.length = ys.length := by simp at hc; omega
    simp only [go_sem, qA, qB, qC, qD, qE, qF, qG, qH]
    repeat (refine ⟨(by first | omega | (simp [-gD]; first | done | omega)), ?_⟩)
    refine loop_intro (ι := Nat) (fun i => .mk [(0, .sl .bw 1 (ints xs)), (1, .sl .bw 1 (ints ys)), (5, .int .i64 i)] [] 10) (fun i => i ≤ xs.length ∧ xs.take i = ys.take i) (fun i => xs.length - i) 0 (by simp) ?_ ?_
    · refine Sub.shape [] id (by omega) ?_ ?_ ?_ ?_ <;> simp [ints_rep]
    · rintro i ⟨hi, hp⟩
      simp only [go_sem, qA, qB, qC, qD, qE, qF, qG, qH]
      repeat (refine ⟨(by first | omega | (simp [-gD]; first | done | omega)), ?_⟩)
      refine branch_intro (fun hc => ?_) (fun hc => ?_)
      · simp only [decide_eq_true_eq] at hc
        have hil : i < xs.length := by omega
        have hjl : i < ys.length := by omega
        simp only [go_sem, qA, qB, qC, qD, qE, qF, qG, qH, ints_getD xs i hil, ints_getD ys i hjl]
        repeat (refine ⟨(by first | omega | (simp [-gD]; first | done | omega)), ?_⟩)
        by_cases he : xs.getD i 0 = ys.getD i 0
        · simp only [go_sem, qA, qB, qC, qD, qE, qF, qG, qH, he, wrap_succ (i := i) (by omega)]
          repeat (refine ⟨(by first | omega | (simp [-gD]; first | done | omega)), ?_⟩)
          refine back_intro (i + 1) (Sub.shape [] id (by omega) ?_ ?_ ?_ ?_) ?_ ?_
          any_goals (first | omega | (simp [ints_rep]; done))
          refine ⟨hil, ?_⟩
          rw [List.take_succ_eq_append_getElem hil, List.take_succ_eq_append_getElem hjl, hp]
          have he' : xs[i] = ys[i] := by simpa [List.getD_eq_getElem?_getD, hil, hjl] using he
          rw [he']
        · simp only [go_sem, qA, qB, qC, qD, qE, qF, qG, qH, he]
          repeat (refine ⟨(by first | omega | (simp [-gD]; first | done | omega)), ?_⟩)
          refine ⟨_, Sub.refl _, ?_⟩; simp [FinS, nilL, nilV, oneOr, -List.drop_one]
          intro h
          subst h
          exact he rfl
      · simp only [decide_eq_false_iff_not] at hc
        have he : xs = ys := by
          have h1 : i = xs.length := by omega
          rw [h1, List.take_length, hl, List.take_length] at hp
          exact hp
        simp only [go_sem, qA, qB, qC, qD, qE, qF, qG, qH]
        repeat (refine ⟨(by first | omega | (simp [-gD]; first | done | omega)), ?_⟩)
        refine ⟨_, Sub.refl _, ?_⟩; simp [FinS, nilL, nilV, oneOr, -List.drop_one]
        exact he

def picksF (code : List Int) (c : Cur) : List Int × Cur := drawsF code 0 60 (fun d => belowF code d 5) 60 0 c []
def wentDraw3 (code : List Int) (p : Prog) (l : List Int × Cur) : Prog × List Int :=
  if (onceF code l.2 60).1 then (p, List.replicate (4000 + (belowF code (onceF code l.2 60).2 2).1).toNat 0) else (p, l.1)
def wentDraw2 (code : List Int) (r : Prog × Cur) : Prog × List Int := wentDraw3 code r.1 (picksF code r.2)
def wentDraw (code : List Int) : Prog × List Int := wentDraw2 code (drawF code (newF code))
theorem wentDraw_small (code : List Int) : (wentDraw code).1.caps.length ≤ 6 ∧ (wentDraw code).1.bods.length ≤ 4 ∧ (∀ b ∈ (wentDraw code).1.bods, b.length ≤ 24) ∧ (wentDraw code).2.length ≤ 4001 := by
  unfold wentDraw wentDraw2 wentDraw3
  have h := drawF_small code (newF code)
  have h2 := (drawsF_length (code := code) (base := 0) (m := 60) (step := fun d => belowF code d 5) 60 0 (drawF code (newF code)).2 []).2
  have h3 := belowF_in code (onceF code (picksF code (drawF code (newF code)).2).2 60).2 2 (by omega)
  split
  · exact ⟨h.1, h.2.1, h.2.2, by simp; omega⟩
  · refine ⟨h.1, h.2.1, h.2.2, ?_⟩
    simp only [List.length_nil] at h2
    show (drawsF code 0 60 (fun d => belowF code d 5) 60 0 (drawF code (newF code)).2 []).1.length ≤ 4001
    omega

set_option maxHeartbeats 4000000 in
theorem drawWentOf_ok (code : List Int) (hb : code.length < 2 ^ 62) : CallOk Try.prog num 20 [.sl .fz 1 (bys code)] [] (.tup [.agg (progC .own (wentDraw code).1), .sl .own 1 (ints (wentDraw code).2)]) := by
  refine enter (m := m20) (f := 20) (fn := Try.f20) Try.func20 (by kernel_rfl) rfl c20 rfl (by simp [Try.f20]) (by simp [bnds, bnd, nf_sl, nf_int, nf_bool, nf_str, ints_bnd]) (fun _ _ h => by simp [preH, look] at h) ?_
  unfold m20 wentDraw
  simp only [go_sem, qA, qB, qC, qD, qE, qF, qG, qH]
  repeat (refine ⟨(by first | omega | (simp [-gD]; first | done | omega)), ?_⟩)
  refine calls_intro (call_ok (n1 := 12) [(10, 11)] (l1New_ok code hb) ?_ ?_ ?_ ?_ ?_ ?_ ?_) ?_
  any_goals (first | omega | (simp [nilL, nilV]; done) | (simp [nilL, nilV, *]; done))
  try simp only [go_sem, qA, qB, qC, qD, qE, qF, qG, qH]
  repeat (refine ⟨(by first | omega | (simp [-gD]; first | done | omega)), ?_⟩)
  refine calls_intro (call_ok0 [(0, 11)] (l1Draw_ok code (newF code) hb) ?_ ?_ ?_ ?_ ?_ ?_) ?_
  any_goals (first | omega | (simp [nilL, nilV]; done) | (simp [nilL, nilV, *]; done))
  try simp only [go_sem, qA, qB, qC, qD, qE, qF, qG, qH]
  repeat (refine ⟨(by first | omega | (simp [-gD]; first | done | omega)), ?_⟩)
  generalize drawF code (newF code) = r
  obtain ⟨p, d⟩ := r
  simp only
  unfold wentDraw2
  simp only
  try simp only [go_sem, qA, qB, qC, qD, qE, qF, qG, qH]
  repeat (refine ⟨(by first | omega | (simp [-gD]; first | done | omega)), ?_⟩)
  refine loop_intro (ι := Nat × Cur × List Int) (fun s => .mk [(2, .ptr 10 0 0), (4, .ptr 11 0 0), (5, .ptr 14 0 0), (6, .ns 15 0 s.1), (7, .int .i64 s.1)] [(10, 2, [[.nil, .nil]]), (11, 3, [curC code s.2.1]), (14, 2, [progC .own p]), (15, 1, ints s.2.2)] 16) (fun s => s.1 ≤ 60 ∧ s.2.2.length = s.1 ∧ drawsF code 0 60 (fun d => belowF code d 5) (60 - s.1) s.1 s.2.1 s.2.2 = drawsF code 0 60 (fun d => belowF code d 5) 60 0 d []) (fun s => 60 - s.1) (0, d, []) ⟨by simp, rfl, rfl⟩ ?_ ?_
  · refine Sub.trans (Sub.fold1 14 0 12 rfl (by simp [-gD] <;> omega) rfl (by decide) (by decide) rfl) ?_
    simp only [fS, qA, qC]
    refine Sub.trans (Sub.fold1 14 1 13 rfl (by simp [-gD] <;> omega) rfl (by decide) (by decide) rfl) ?_
    simp only [fS, qA, qC]
    refine Sub.shape [] id (by omega) ?_ ?_ ?_ ?_ <;> simp [ints_rep]
    exact .inl rfl
  · rintro ⟨j, f, acc⟩ ⟨hj, hl, hd⟩
    simp only at hj hl hd ⊢
    simp only [go_sem, qA, qB, qC, qD, qE, qF, qG, qH]
    refine calls_intro (call_ok0 [(0, 11)] (l1Below_ok code f 60 hb) ?_ ?_ ?_ ?_ ?_ ?_) ?_
    any_goals (first | omega | (simp [nilL, nilV]; done) | (simp [nilL, nilV, *]; done))
    try simp only [go_sem, qA, qB, qC, qD, qE, qF, qG, qH]
    repeat (refine ⟨(by first | omega | (simp [-gD]; first | done | omega)), ?_⟩)
    have hr := belowF_in code f 60 (by omega)
    refine branch_intro (fun hc => ?_) (fun hc => ?_)
    · simp only [decide_eq_true_eq] at hc
      have hg := drawsF_go (code := code) (base := 0) (m := 60) (step := fun d => belowF code d 5) (N := 60) (i := j) (c := f) (acc := acc) (by omega) (by omega)
      rw [hg] at hd
      simp only [go_sem, qA, qB, qC, qD, qE, qF, qG, qH, wrap_succ (i := j) (by omega), hl]
      repeat (refine ⟨(by first | omega | (simp [-gD]; first | done | omega)), ?_⟩)
      refine calls_intro (call_ok0 [(0, 11)] (l1Below_ok code (belowF code f 60).2 5 hb) ?_ ?_ ?_ ?_ ?_ ?_) ?_
      any_goals (first | omega | (simp [nilL, nilV]; done) | (simp [nilL, nilV, *]; done))
      try simp only [go_sem, qA, qB, qC, qD, qE, qF, qG, qH]
      repeat (refine ⟨(by first | omega | (simp [-gD]; first | done | omega)), ?_⟩)
      try simp only [go_sem, qA, qB, qC, qD, qE, qF, qG, qH, wrap_succ (i := j) (by omega), hl]
      repeat (refine ⟨(by first | omega | (simp [-gD]; first | done | omega)), ?_⟩)
      refine back_intro (j + 1, (belowF code (belowF code f 60).2 5).2, acc ++ [(belowF code (belowF code f 60).2 5).1]) ?_ ⟨by simp only; omega, by simp only [List.length_append, hl]; rfl, hd⟩ (by simp only; omega)
      refine Sub.shape [] (fun n => if n = 15 then 17 else n) (by omega) ?_ ?_ ?_ ?_ <;> simp [ints_rep]
      exact .inl (ints_snoc _ _)
    · simp only [decide_eq_false_iff_not] at hc
      rw [drawsF_stop (by omega)] at hd
      have hp : picksF code d = (acc, (belowF code f 60).2) := hd.symm
      simp only [go_sem, qA, qB, qC, qD, qE, qF, qG, qH]
      repeat (refine ⟨(by first | omega | (simp [-gD]; first | done | omega)), ?_⟩)
      rw [hp]
      unfold wentDraw3
      simp only
      refine calls_intro (call_ok0 [(0, 11)] (l1Once_ok code (belowF code f 60).2 60 hb) ?_ ?_ ?_ ?_ ?_ ?_) ?_
      any_goals (first | omega | (simp [nilL, nilV]; done) | (simp [nilL, nilV, *]; done))
      try simp only [go_sem, qA, qB, qC, qD, qE, qF, qG, qH]
      repeat (refine ⟨(by first | omega | (simp [-gD]; first | done | omega)), ?_⟩)
      cases ho : (onceF code (belowF code f 60).2 60).1
      · try simp only [go_sem, qA, qB, qC, qD, qE, qF, qG, qH, ho]
        repeat (refine ⟨(by first | omega | (simp [-gD]; first | done | omega)), ?_⟩)
        apply fin_tup (by simp)
        · exact Sub.refl _
        · simp [-List.drop_one, -gD, ho, hl] <;> (first | rfl | exact ⟨rfl, rfl⟩ | exact ⟨rfl, rfl, rfl⟩ | skip)
      · have hr2 := belowF_in code (onceF code (belowF code f 60).2 60).2 2 (by omega)
        have w2 : IntKind.i64.wrap (4000 + (belowF code (onceF code (belowF code f 60).2 60).2 2).1) = 4000 + (belowF code (onceF code (belowF code f 60).2 60).2 2).1 := wrap64 (by omega) (by omega)
        try simp only [go_sem, qA, qB, qC, qD, qE, qF, qG, qH, ho]
        repeat (refine ⟨(by first | omega | (simp [-gD]; first | done | omega)), ?_⟩)
        refine calls_intro (call_ok0 [(0, 11)] (l1Below_ok code (onceF code (belowF code f 60).2 60).2 2 hb) ?_ ?_ ?_ ?_ ?_ ?_) ?_
        any_goals (first | omega | (simp [nilL, nilV]; done) | (simp [nilL, nilV, *]; done))
        try simp only [go_sem, qA, qB, qC, qD, qE, qF, qG, qH]
        repeat (refine ⟨(by first | omega | (simp [-gD]; first | done | omega)), ?_⟩)
        try simp only [go_sem, qA, qB, qC, qD, qE, qF, qG, qH, ho, w2]
        repeat (refine ⟨(by first | omega | (simp [-gD]; first | done | omega)), ?_⟩)
        apply fin_tup (by simp)
        · exact Sub.refl _
        · simp [-List.drop_one, -gD, ho, ints_rep] <;> (first | rfl | exact ⟨rfl, rfl⟩ | exact ⟨rfl, rfl, rfl⟩ | skip)


end Go.Sep
