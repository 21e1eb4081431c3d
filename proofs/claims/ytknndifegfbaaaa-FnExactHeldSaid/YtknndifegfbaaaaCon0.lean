/- Contracts of functions. -/
import Derived.Test.YtknndifegfbaaaaFns
namespace Go.Sep
open Go.Proofs
set_option linter.unusedSimpArgs false
set_option linter.unusedVariables false
set_option maxRecDepth 100000
attribute [local go_sem] paramT preH e_seq e_reg e_block e_loop e_ops e_skip e_ret e_cond e_guard e_call e_ops1 plan next_ok next_some Arg.ev lookT putD putT if_false if_true app1 put del ints_length binA Option.map_some Option.bind_some look Int.toNat_natCast e_blk e_stop e_exit exitIt true_and and_true maybe_do maybe_tf maybe_ft branch_true branch_false Bool.false_eq_true bnd? cellsOf openL List.isEmpty_nil List.isEmpty_cons fresh List.map_nil List.map_cons List.cons_append List.nil_append splice List.take_zero List.drop_zero List.take_succ_cons List.getD_cons_zero List.length_cons List.length_nil List.drop_succ_cons List.drop_nil List.append_nil List.all_cons List.all_nil cellOk Bool.and_self Nat.zero_add e_dreg e_done e_take e_only1 e_onlyc e_takeg e_onlyg e_both dnext_some dnext_ok dmaybe_do rdTake pdTake addP rdOnly pdOnly isRead alive needs undep apart List.filter_nil List.filter_cons Option.isSome_some Option.isSome_none List.contains_nil List.contains_cons List.forall_mem_cons List.mem_cons List.not_mem_nil false_implies implies_true forall_const forall_eq_or_imp forall_eq or_false beq_self_eq_true Bool.or_false Bool.false_or Bool.true_or Bool.or_true Bool.not_true Bool.not_false fillR fillROk fillA fillOk srcA eqC bytesOf ints_append List.replicate_zero decide_true decide_false ints_set nil_bind eq_self Bool.and_true Bool.true_and Bool.and_false Bool.false_and List.set_cons_zero List.set_cons_succ List.getD_cons_succ rnm ixm renV renL openV openVs cond_true cond_false ints_drop ints_take drop_all

theorem toIntS_ok (xs : List Int) (hx : 8 * xs.length ≤ 2 ^ 47) : CallOk Try.prog num 5 [.sl .bw 1 (ints xs)] [] (.sl .own 1 (ints xs)) := by
  refine enter (m := m5) (f := 5) (fn := Try.f8) Try.func8 (by kernel_rfl) rfl c5 rfl (by simp [Try.f8]) (by simp [bnds, bnd, nf_sl, nf_int, nf_bool, nf_str, ints_bnd]) (fun _ _ h => by simp [preH, look] at h) ?_
  unfold m5
  simp only [go_sem, Nat.reduceAdd, Nat.reduceMul, Nat.reduceEqDiff, Nat.reduceBEq]
  refine ⟨by omega, loop_intro (ι := Nat) (fun i => .mk [(0, .sl .bw 1 (ints xs)), (3, .ns 10 0 xs.length), (4, .int .i64 i)] [(10, 1, ints (xs.take i ++ List.replicate (xs.length - i) 0))] 11) (fun i => i ≤ xs.length) (fun i => xs.length - i) 0 (by omega) ?_ ?_⟩
  · refine Sub.shape [] id (by omega) ?_ ?_ ?_ ?_ <;> simp [ints_bnd, shp, lookT, renV, okB, look, nf_sl, nf_int, nf_bool, ints_rep]
  · intro i hi
    simp only [go_sem, Nat.reduceAdd, Nat.reduceMul, Nat.reduceEqDiff, Nat.reduceBEq]
    refine branch_intro (fun hc => ?_) (fun hc => ?_)
    · simp only [decide_eq_true_eq] at hc
      have hl : i < xs.length := by omega
      have hm : (xs.take i ++ List.replicate (xs.length - i) (0 : Int)).length = xs.length := by simp; omega
      have hs : (xs.take i ++ List.replicate (xs.length - i) (0 : Int)).set i (xs.getD i 0) = xs.take (i + 1) ++ List.replicate (xs.length - (i + 1)) 0 := by
        have h1 : xs.length - i = (xs.length - (i + 1)) + 1 := by omega
        rw [List.set_append_right _ _ (by simp; omega), List.length_take, Nat.min_eq_left hi, Nat.sub_self, h1, List.replicate_succ, List.set_cons_zero, List.take_succ_eq_append_getElem hl, List.append_assoc]
        congr 1
        simp [List.getD_eq_getElem?_getD, hl]
      have hw := wrap_succ (i := i) (by omega)
      simp only [go_sem, Nat.reduceAdd, Nat.reduceMul, Nat.reduceEqDiff, Nat.reduceBEq, ints_getD xs i hl, ints_getD _ i (hm ▸ hl), hm, ints_set, hs, hw]
      refine ⟨by omega, by omega, by omega, by omega, back_intro (i + 1) (Sub.shape [] id (by omega) ?_ ?_ ?_ ?_) hl (by omega)⟩ <;> simp [ints_bnd, shp, lookT, renV, okB, look, nf_sl, nf_int, nf_bool, ints_rep]
    · simp only [decide_eq_false_iff_not] at hc
      have : i = xs.length := by omega
      subst this
      simp only [go_sem, Nat.reduceAdd, Nat.reduceMul, Nat.reduceEqDiff, Nat.reduceBEq]
      refine ⟨_, Sub.refl _, ?_⟩
      simp [FinS, resAV, allP, giveL, giveV, lookT, look, postH, del, nilL, nilV, oneOr, isOwn, ints_length]

theorem eqIntS_ok (xs ys : List Int) (hx : xs.length ≤ 2 ^ 47) : CallOk Try.prog num 8 [.sl .bw 1 (ints xs), .sl .bw 1 (ints ys)] [] (.bool (decide (xs = ys))) := by
  refine enter (m := m8) (f := 8) (fn := Try.f10) Try.func10 (by kernel_rfl) rfl c8 rfl (by simp [Try.f10]) (by simp [bnds, bnd, nf_sl, nf_int, nf_bool, nf_str, ints_bnd]) (fun _ _ h => by simp [preH, look] at h) ?_
  unfold m8
  simp only [go_sem, Nat.reduceAdd, Nat.reduceMul, Nat.reduceEqDiff, Nat.reduceBEq]
  refine branch_intro (fun hc => ?_) (fun hc => ?_)
  · have hne : xs ≠ ys := fun he => by subst he; simp at hc
    simp only [go_sem, Nat.reduceAdd, Nat.reduceMul, Nat.reduceEqDiff, Nat.reduceBEq]
    refine ⟨_, Sub.refl _, ?_⟩
    simp [FinS, resAV, allP, giveL, giveV, lookT, look, postH, del, nilL, nilV, oneOr, isOwn, ints_length]
    exact hne
  · have hl : xs.length = ys.length := by simp at hc; omega
    simp only [go_sem, Nat.reduceAdd, Nat.reduceMul, Nat.reduceEqDiff, Nat.reduceBEq]
    refine loop_intro (ι := Nat) (fun i => .mk [(0, .sl .bw 1 (ints xs)), (1, .sl .bw 1 (ints ys)), (5, .int .i64 i)] [] 10) (fun i => i ≤ xs.length ∧ xs.take i = ys.take i) (fun i => xs.length - i) 0 (by simp) ?_ ?_
    · refine Sub.shape [] id (by omega) ?_ ?_ ?_ ?_ <;> simp [ints_bnd, shp, lookT, renV, okB, look, nf_sl, nf_int, nf_bool, ints_rep]
    · rintro i ⟨hi, hp⟩
      simp only [go_sem, Nat.reduceAdd, Nat.reduceMul, Nat.reduceEqDiff, Nat.reduceBEq]
      refine branch_intro (fun hc => ?_) (fun hc => ?_)
      · simp only [decide_eq_true_eq] at hc
        have hil : i < xs.length := by omega
        have hjl : i < ys.length := by omega
        simp only [go_sem, Nat.reduceAdd, Nat.reduceMul, Nat.reduceEqDiff, Nat.reduceBEq, ints_getD xs i hil, ints_getD ys i hjl]
        refine ⟨by omega, by omega, by omega, by omega, branch_intro (fun hc => ?_) (fun hc => ?_)⟩
        · have hne : xs ≠ ys := fun he => by subst he; simp at hc
          simp only [go_sem, Nat.reduceAdd, Nat.reduceMul, Nat.reduceEqDiff, Nat.reduceBEq]
          refine ⟨_, Sub.refl _, ?_⟩
          simp [FinS, resAV, allP, giveL, giveV, lookT, look, postH, del, nilL, nilV, oneOr, isOwn, ints_length]
          exact hne
        · have hw := wrap_succ (i := i) (by omega)
          simp only [go_sem, Nat.reduceAdd, Nat.reduceMul, Nat.reduceEqDiff, Nat.reduceBEq, hw]
          have he : xs.getD i 0 = ys.getD i 0 := by simpa using hc
          refine back_intro (i + 1) (Sub.shape [] id (by omega) ?_ ?_ ?_ ?_) ⟨hil, ?_⟩ (by omega)
          case refine_5 =>
            rw [List.take_succ_eq_append_getElem hil, List.take_succ_eq_append_getElem hjl, hp]
            have he' : xs[i] = ys[i] := by simpa [List.getD_eq_getElem?_getD, hil, hjl] using he
            rw [he']
          all_goals simp [ints_bnd, shp, lookT, renV, okB, look, nf_sl, nf_int, nf_bool, ints_rep]
      · simp only [decide_eq_false_iff_not] at hc
        have hi' : i = xs.length := by omega
        have he : xs = ys := by
          rw [hi', List.take_length, hl, List.take_length] at hp
          exact hp
        simp only [go_sem, Nat.reduceAdd, Nat.reduceMul, Nat.reduceEqDiff, Nat.reduceBEq]
        refine ⟨_, Sub.refl _, ?_⟩
        simp [FinS, resAV, allP, giveL, giveV, lookT, look, postH, del, nilL, nilV, oneOr, isOwn, ints_length]
        exact he

theorem slicesEqual_ok (xs ys : List Int) (hx : xs.length ≤ 2 ^ 47) : CallOk Try.prog num 34 [.sl .bw 1 (ints xs), .sl .bw 1 (ints ys)] [] (.bool (decide (xs = ys))) := by
  refine enter (m := m34) (f := 34) (fn := Try.f33) Try.func33 (by kernel_rfl) rfl c34 rfl (by simp [Try.f33]) (by simp [bnds, bnd, nf_sl, nf_int, nf_bool, nf_str, ints_bnd]) (fun _ _ h => by simp [preH, look] at h) ?_
  unfold m34
  simp only [go_sem, Nat.reduceAdd, Nat.reduceMul, Nat.reduceEqDiff, Nat.reduceBEq]
  refine branch_intro (fun hc => ?_) (fun hc => ?_)
  · have hne : xs ≠ ys := fun he => by subst he; simp at hc
    simp only [go_sem, Nat.reduceAdd, Nat.reduceMul, Nat.reduceEqDiff, Nat.reduceBEq]
    refine ⟨_, Sub.refl _, ?_⟩
    simp [FinS, resAV, allP, giveL, giveV, lookT, look, postH, del, nilL, nilV, oneOr, isOwn, ints_length]
    exact hne
  · have hl : xs.length = ys.length := by simp at hc; omega
    simp only [go_sem, Nat.reduceAdd, Nat.reduceMul, Nat.reduceEqDiff, Nat.reduceBEq]
    refine loop_intro (ι := Nat) (fun i => .mk [(0, .sl .bw 1 (ints xs)), (1, .sl .bw 1 (ints ys)), (12, .int .i64 xs.length), (13, .int .i64 i)] [] 10) (fun i => i ≤ xs.length ∧ xs.take i = ys.take i) (fun i => xs.length - i) 0 (by simp) ?_ ?_
    · refine Sub.shape [] id (by omega) ?_ ?_ ?_ ?_ <;> simp [ints_bnd, shp, lookT, renV, okB, look, nf_sl, nf_int, nf_bool, ints_rep]
    · rintro i ⟨hi, hp⟩
      simp only [go_sem, Nat.reduceAdd, Nat.reduceMul, Nat.reduceEqDiff, Nat.reduceBEq]
      refine branch_intro (fun hc => ?_) (fun hc => ?_)
      · simp only [decide_eq_true_eq] at hc
        have hil : i < xs.length := by omega
        have hjl : i < ys.length := by omega
        simp only [go_sem, Nat.reduceAdd, Nat.reduceMul, Nat.reduceEqDiff, Nat.reduceBEq, ints_getD xs i hil, ints_getD ys i hjl]
        refine ⟨by omega, by omega, by omega, by omega, branch_intro (fun hc => ?_) (fun hc => ?_)⟩
        · have hne : xs ≠ ys := fun he => by subst he; simp at hc
          simp only [go_sem, Nat.reduceAdd, Nat.reduceMul, Nat.reduceEqDiff, Nat.reduceBEq]
          refine ⟨_, Sub.refl _, ?_⟩
          simp [FinS, resAV, allP, giveL, giveV, lookT, look, postH, del, nilL, nilV, oneOr, isOwn, ints_length]
          exact hne
        · have hw := wrap_succ (i := i) (by omega)
          simp only [go_sem, Nat.reduceAdd, Nat.reduceMul, Nat.reduceEqDiff, Nat.reduceBEq, hw]
          have he : xs.getD i 0 = ys.getD i 0 := by simpa using hc
          refine back_intro (i + 1) (Sub.shape [] id (by omega) ?_ ?_ ?_ ?_) ⟨hil, ?_⟩ (by omega)
          case refine_5 =>
            rw [List.take_succ_eq_append_getElem hil, List.take_succ_eq_append_getElem hjl, hp]
            have he' : xs[i] = ys[i] := by simpa [List.getD_eq_getElem?_getD, hil, hjl] using he
            rw [he']
          all_goals simp [ints_bnd, shp, lookT, renV, okB, look, nf_sl, nf_int, nf_bool, ints_rep]
      · simp only [decide_eq_false_iff_not] at hc
        have hi' : i = xs.length := by omega
        have he : xs = ys := by
          rw [hi', List.take_length, hl, List.take_length] at hp
          exact hp
        simp only [go_sem, Nat.reduceAdd, Nat.reduceMul, Nat.reduceEqDiff, Nat.reduceBEq]
        refine ⟨_, Sub.refl _, ?_⟩
        simp [FinS, resAV, allP, giveL, giveV, lookT, look, postH, del, nilL, nilV, oneOr, isOwn, ints_length]
        exact he

/-- What Begins tells. -/
def begins (a b : List Int) : Bool := decide (a.length ≤ b.length) && decide (a = b.take a.length)

theorem implBegins_ok (xs ys : List Int) (hx : xs.length ≤ 2 ^ 47) : CallOk Try.prog num 7 [.sl .bw 1 (ints xs), .sl .bw 1 (ints ys)] [] (.bool (begins xs ys)) := by
  refine enter (m := m7) (f := 7) (fn := Try.f9) Try.func9 (by kernel_rfl) rfl c7 rfl (by simp [Try.f9]) (by simp [bnds, bnd, nf_sl, nf_int, nf_bool, nf_str, ints_bnd]) (fun _ _ h => by simp [preH, look] at h) ?_
  unfold m7
  by_cases h : xs.length ≤ ys.length
  · have hd : decide ((xs.length : Int) ≤ ys.length) = true := by simp; omega
    simp only [go_sem, Nat.reduceAdd, Nat.reduceMul, Nat.reduceEqDiff, Nat.reduceBEq, hd]
    refine ⟨by omega, calls_intro (call_ok (n1 := 10) [] (slicesEqual_ok xs (ys.take xs.length) hx) ?_ ?_ ?_ ?_ ?_ ?_ ?_) ?_⟩
    · simp [hand, bwT, bwC, ints_bw, ints_take, nilL, nilV, lookT, Arg.ev]
    · simp [handOk, bwOk, nf_sl, ints_bnd, ints_take, lookT, Arg.ev]
    · simp
    · simp
    · simp
    · simp [okV, nb]
    · omega
    · simp only [go_sem, Nat.reduceAdd, Nat.reduceMul, Nat.reduceEqDiff, Nat.reduceBEq, hd, renV, openV]
      refine ⟨_, Sub.refl _, ?_⟩
      simp [FinS, resAV, allP, giveL, giveV, lookT, look, postH, del, nilL, nilV, oneOr, isOwn, ints_length]
      simp [begins, h]
  · have hd : decide ((xs.length : Int) ≤ ys.length) = false := by simp; omega
    simp only [go_sem, Nat.reduceAdd, Nat.reduceMul, Nat.reduceEqDiff, Nat.reduceBEq, hd]
    refine ⟨_, Sub.refl _, ?_⟩
    simp [FinS, resAV, allP, giveL, giveV, lookT, look, postH, del, nilL, nilV, oneOr, isOwn, ints_length]
    simp [begins, h]

theorem begins_short {xs ys : List Int} {i : Nat} (hx : i < xs.length) (hy : i < ys.length) (hne : xs.getD i 0 ≠ ys.getD i 0) : begins xs ys = false := by
  simp only [begins, Bool.and_eq_false_iff, decide_eq_false_iff_not]
  refine .inr fun he => hne ?_
  have h1 : xs[i]? = (ys.take xs.length)[i]? := by rw [← he]
  rw [List.getElem?_take_of_lt hx] at h1
  rw [List.getD_eq_getElem?_getD, List.getD_eq_getElem?_getD, h1]

theorem specBegins_ok (xs ys : List Int) (hx : xs.length ≤ 2 ^ 47) : CallOk Try.prog num 6 [.sl .bw 1 (ints xs), .sl .bw 1 (ints ys)] [] (.bool (begins xs ys)) := by
  refine enter (m := m6) (f := 6) (fn := Try.f7) Try.func7 (by kernel_rfl) rfl c6 rfl (by simp [Try.f7]) (by simp [bnds, bnd, nf_sl, nf_int, nf_bool, nf_str, ints_bnd]) (fun _ _ h => by simp [preH, look] at h) ?_
  unfold m6
  simp only [go_sem, Nat.reduceAdd, Nat.reduceMul, Nat.reduceEqDiff, Nat.reduceBEq]
  refine loop_intro (ι := Nat) (fun i => .mk [(0, .sl .bw 1 (ints xs)), (1, .sl .bw 1 (ints ys)), (5, .int .i64 i)] [] 10) (fun i => i ≤ xs.length ∧ i ≤ ys.length ∧ xs.take i = ys.take i) (fun i => xs.length - i) 0 (by simp) ?_ ?_
  · refine Sub.shape [] id (by omega) ?_ ?_ ?_ ?_ <;> simp [ints_bnd, shp, lookT, renV, okB, look, nf_sl, nf_int, nf_bool, ints_rep]
  · rintro i ⟨hi, hj, hp⟩
    by_cases hA : i < xs.length
    · have dA : decide ((i : Int) < xs.length) = true := by simp; omega
      by_cases hB : i < ys.length
      · have dB : decide ((i : Int) < ys.length) = true := by simp; omega
        simp only [go_sem, Nat.reduceAdd, Nat.reduceMul, Nat.reduceEqDiff, Nat.reduceBEq, dA, dB, cond_true, cond_false, ints_getD xs i hA, ints_getD ys i hB]
        refine ⟨by omega, by omega, by omega, by omega, branch_intro (fun hc => ?_) (fun hc => ?_)⟩
        · have hne : xs.getD i 0 ≠ ys.getD i 0 := by simpa using hc
          simp only [go_sem, Nat.reduceAdd, Nat.reduceMul, Nat.reduceEqDiff, Nat.reduceBEq]
          refine ⟨_, Sub.refl _, ?_⟩
          simp [FinS, resAV, allP, giveL, giveV, lookT, look, postH, del, nilL, nilV, oneOr, isOwn, ints_length]
          exact begins_short hA hB hne
        · have hw := wrap_succ (i := i) (by omega)
          simp only [go_sem, Nat.reduceAdd, Nat.reduceMul, Nat.reduceEqDiff, Nat.reduceBEq, hw]
          have he : xs.getD i 0 = ys.getD i 0 := by simpa using hc
          refine back_intro (i + 1) (Sub.shape [] id (by omega) ?_ ?_ ?_ ?_) ⟨hA, hB, ?_⟩ (by omega)
          case refine_5 =>
            rw [List.take_succ_eq_append_getElem hA, List.take_succ_eq_append_getElem hB, hp]
            have he' : xs[i] = ys[i] := by simpa [List.getD_eq_getElem?_getD, hA, hB] using he
            rw [he']
          all_goals simp [ints_bnd, shp, lookT, renV, okB, look, nf_sl, nf_int, nf_bool, ints_rep]
      · have dB : decide ((i : Int) < ys.length) = false := by simp; omega
        simp only [go_sem, Nat.reduceAdd, Nat.reduceMul, Nat.reduceEqDiff, Nat.reduceBEq, dA, dB, cond_true, cond_false]
        refine ⟨_, Sub.refl _, ?_⟩
        simp [FinS, resAV, allP, giveL, giveV, lookT, look, postH, del, nilL, nilV, oneOr, isOwn, ints_length]
        simp only [begins]
        have : ¬ xs.length ≤ ys.length := by omega
        simp [this]
    · have dA : decide ((i : Int) < xs.length) = false := by simp; omega
      simp only [go_sem, Nat.reduceAdd, Nat.reduceMul, Nat.reduceEqDiff, Nat.reduceBEq, dA, cond_true, cond_false]
      refine ⟨_, Sub.refl _, ?_⟩
      simp [FinS, resAV, allP, giveL, giveV, lookT, look, postH, del, nilL, nilV, oneOr, isOwn, ints_length]
      have hi' : i = xs.length := by omega
      subst hi'
      rw [List.take_length] at hp
      simp only [begins]
      rw [← hp]
      simp

/-- What is left of a size. -/
def szL (k : Nat) (n : Int) : Int := if n - k < 0 then -1 else n - k

theorem szIntS_ok (xs : List Int) (n : Int) (hx : xs.length < 2 ^ 63) (h0 : 0 ≤ n) (h1 : n ≤ 2 ^ 62) : CallOk Try.prog num 35 [.sl .bw 1 (ints xs), .int .i64 n] [] (.int .i64 (szL xs.length n)) := by
  refine enter (m := m35) (f := 35) (fn := Try.f34) Try.func34 (by kernel_rfl) rfl c35 rfl (by simp [Try.f34]) (by simp [bnds, bnd, nf_sl, nf_int, nf_bool, nf_str, ints_bnd]) (fun _ _ h => by simp [preH, look] at h) ?_
  unfold m35
  have hw : IntKind.i64.wrap (n - xs.length) = n - xs.length := wrap64 (by omega) (by omega)
  simp only [go_sem, Nat.reduceAdd, Nat.reduceMul, Nat.reduceEqDiff, Nat.reduceBEq, hw]
  refine branch_intro (fun hc => ?_) (fun hc => ?_)
  · simp only [go_sem, Nat.reduceAdd, Nat.reduceMul, Nat.reduceEqDiff, Nat.reduceBEq]
    refine ⟨_, Sub.refl _, ?_⟩; simp [FinS, resAV, allP, giveL, giveV, lookT, look, postH, del, nilL, nilV, oneOr, isOwn, ints_length]
    simp only [decide_eq_true_eq] at hc
    simp [szL, hc]
  · simp only [go_sem, Nat.reduceAdd, Nat.reduceMul, Nat.reduceEqDiff, Nat.reduceBEq]
    refine ⟨_, Sub.refl _, ?_⟩; simp [FinS, resAV, allP, giveL, giveV, lookT, look, postH, del, nilL, nilV, oneOr, isOwn, ints_length]
    simp only [decide_eq_false_iff_not] at hc
    simp [szL, hc]

/-- Numbers one after the other. -/
def marks (k : Int) (n : Nat) : List Int := (List.range n).map fun (i : Nat) => k + i
@[simp] theorem marks_length (k : Int) (n : Nat) : (marks k n).length = n := by simp [marks]
@[simp] theorem marks_take (k : Int) (n : Nat) : (marks k n).take n = marks k n := List.take_of_length_le (by simp)
theorem marks_succ (k : Int) (n : Nat) : marks k (n + 1) = marks k n ++ [k + n] := by simp [marks, List.range_succ]
theorem marks_getD (k : Int) (n i : Nat) (h : i < n) : (marks k n).getD i 0 = k + i := by simp [marks, List.getD_eq_getElem?_getD, h]

theorem wrap_add (k : Int) (i : Nat) (h0 : 0 ≤ k) (h1 : k + i < 2 ^ 62) : IntKind.i64.wrap (k + i + 1) = k + ((i + 1 : Nat) : Int) := by rw [wrap64 (by omega) (by omega)]; omega

theorem marks_set (xs : List Int) (k : Int) (i : Nat) (h : i < xs.length) : (marks k i ++ xs.drop i).set i (k + i) = marks k (i + 1) ++ xs.drop (i + 1) := by
  rw [List.set_append_right _ _ (by simp [marks_length]), marks_length, Nat.sub_self, List.drop_eq_getElem_cons h, List.set_cons_zero, marks_succ, List.append_assoc]
  rfl

theorem markIntS_ok (xs : List Int) (k : Int) (h0 : 0 ≤ k) (h1 : k + xs.length < 2 ^ 62) : CallOk Try.prog num 16 [.ns 0 0 xs.length, .int .i64 k] [(0, some (1, ints xs), some (1, ints (marks k xs.length)))] (.int .i64 (k + xs.length)) := by
  refine enter (m := m16) (f := 16) (fn := Try.f17) Try.func17 (by kernel_rfl) rfl c16 rfl (by simp [Try.f17]) (by simp [bnds, bnd, nf_sl, nf_int, nf_bool, nf_str, ints_bnd]) (by simp [preH, hb_nil, hb_cons, ints_bnd]) ?_
  unfold m16
  simp only [go_sem, Nat.reduceAdd, Nat.reduceMul, Nat.reduceEqDiff, Nat.reduceBEq]
  refine loop_intro (ι := Nat) (fun i => .mk [(0, .ns 0 0 xs.length), (1, .int .i64 (k + i)), (5, .int .i64 i)] [(0, 1, ints (marks k i ++ xs.drop i))] 10) (fun i => i ≤ xs.length) (fun i => xs.length - i) 0 (by omega) ?_ ?_
  · refine Sub.shape [] id (by omega) ?_ ?_ ?_ ?_ <;> simp [ints_bnd, shp, lookT, renV, okB, look, nf_sl, nf_int, nf_bool, ints_rep]
    simp [marks]
  · intro i hi
    have hm : (marks k i ++ xs.drop i).length = xs.length := by simp [marks_length]; omega
    simp only [go_sem, Nat.reduceAdd, Nat.reduceMul, Nat.reduceEqDiff, Nat.reduceBEq, hm]
    refine branch_intro (fun hc => ?_) (fun hc => ?_)
    · simp only [decide_eq_true_eq] at hc
      have hl : i < xs.length := by omega
      simp only [go_sem, Nat.reduceAdd, Nat.reduceMul, Nat.reduceEqDiff, Nat.reduceBEq, ints_getD _ i (hm ▸ hl), hm, ints_set, marks_set xs k i hl, wrap_add k i h0 (by omega), wrap_succ (i := i) (by omega)]
      repeat (refine ⟨(by first | omega | (simp [ints_length, ints_free]; done) | (simp [ints_length, ints_free]; omega)), ?_⟩)
      refine back_intro (i + 1) (Sub.shape [] id (by omega) ?_ ?_ ?_ ?_) ?_ ?_
      any_goals (first | omega | (simp [ints_bnd, shp, lookT, renV, okB, look, nf_sl, nf_int, nf_bool, ints_rep]; done))
    · simp only [decide_eq_false_iff_not] at hc
      have : i = xs.length := by omega
      subst this
      simp only [go_sem, Nat.reduceAdd, Nat.reduceMul, Nat.reduceEqDiff, Nat.reduceBEq]
      refine ⟨_, Sub.refl _, ?_⟩; simp [FinS, resAV, allP, giveL, giveV, lookT, look, postH, del, nilL, nilV, oneOr, isOwn, ints_length]

theorem heldIntS_ok (n : Nat) (k : Int) (h0 : 0 ≤ k) (h1 : k + n < 2 ^ 62) : CallOk Try.prog num 17 [.sl .bw 1 (ints (marks k n)), .int .i64 k] [] (.int .i64 (k + n)) := by
  refine enter (m := m17) (f := 17) (fn := Try.f18) Try.func18 (by kernel_rfl) rfl c17 rfl (by simp [Try.f18]) (by simp [bnds, bnd, nf_sl, nf_int, nf_bool, nf_str, ints_bnd]) (fun _ _ h => by simp [preH, look] at h) ?_
  unfold m17
  simp only [go_sem, Nat.reduceAdd, Nat.reduceMul, Nat.reduceEqDiff, Nat.reduceBEq, marks_length]
  refine loop_intro (ι := Nat) (fun i => .mk [(0, .sl .bw 1 (ints (marks k n))), (1, .int .i64 (k + i)), (5, .int .i64 i)] [] 10) (fun i => i ≤ n) (fun i => n - i) 0 (by omega) ?_ ?_
  · refine Sub.shape [] id (by omega) ?_ ?_ ?_ ?_ <;> simp [ints_bnd, shp, lookT, renV, okB, look, nf_sl, nf_int, nf_bool, ints_rep]
  · intro i hi
    simp only [go_sem, Nat.reduceAdd, Nat.reduceMul, Nat.reduceEqDiff, Nat.reduceBEq, marks_length]
    refine branch_intro (fun hc => ?_) (fun hc => ?_)
    · simp only [decide_eq_true_eq] at hc
      have hl : i < n := by omega
      simp only [go_sem, Nat.reduceAdd, Nat.reduceMul, Nat.reduceEqDiff, Nat.reduceBEq, ints_getD (marks k n) i (by rw [marks_length]; exact hl), marks_getD k n i hl, marks_length, decide_true, Bool.not_true, wrap_add k i h0 (by omega), wrap_succ (i := i) (by omega)]
      repeat (refine ⟨(by first | omega | (simp [ints_length, ints_free]; done) | (simp [ints_length, ints_free]; omega)), ?_⟩)
      refine back_intro (i + 1) (Sub.shape [] id (by omega) ?_ ?_ ?_ ?_) ?_ ?_
      any_goals (first | omega | (simp [ints_bnd, shp, lookT, renV, okB, look, nf_sl, nf_int, nf_bool, ints_rep]; done))
    · simp only [decide_eq_false_iff_not] at hc
      have : i = n := by omega
      subst this
      simp only [go_sem, Nat.reduceAdd, Nat.reduceMul, Nat.reduceEqDiff, Nat.reduceBEq]
      refine ⟨_, Sub.refl _, ?_⟩; simp [FinS, resAV, allP, giveL, giveV, lookT, look, postH, del, nilL, nilV, oneOr, isOwn, ints_length]

theorem copyInts_ok (xs : List Int) (hx : 8 * xs.length ≤ 2 ^ 47) : CallOk Try.prog num 36 [.sl .bw 1 (ints xs)] [] (.sl .own 1 (ints xs)) := by
  refine enter (m := m36) (f := 36) (fn := Try.f35) Try.func35 (by kernel_rfl) rfl c36 rfl (by simp [Try.f35]) (by simp [bnds, bnd, nf_sl, nf_int, nf_bool, nf_str, ints_bnd]) (fun _ _ h => by simp [preH, look] at h) ?_
  unfold m36
  simp only [go_sem, Nat.reduceAdd, Nat.reduceMul, Nat.reduceEqDiff, Nat.reduceBEq]
  repeat (refine ⟨(by first | omega | (simp [ints_length, ints_free]; done) | (simp [ints_length, ints_free]; omega)), ?_⟩)
  refine ⟨_, Sub.refl _, ?_⟩; simp [FinS, resAV, allP, giveL, giveV, lookT, look, postH, del, nilL, nilV, oneOr, isOwn, ints_length]

def szWentL (a b : Nat) (n : Int) : Int := if szL a n < 0 then -1 else if szL b (szL a n) < 0 then -1 else szL b (szL a n)

theorem szL_le {k : Nat} {n : Int} (h : 0 ≤ n) : szL k n ≤ n := by unfold szL; split <;> omega

theorem szWent_ok (xs ys : List Int) (n : Int) (hx : xs.length < 2 ^ 63) (hy : ys.length < 2 ^ 63) (h0 : 0 ≤ n) (h1 : n ≤ 2 ^ 62) : CallOk Try.prog num 10 [.agg [.sl .bw 1 (ints xs), .sl .bw 1 (ints ys)], .int .i64 n] [] (.int .i64 (szWentL xs.length ys.length n)) := by
  refine enter (m := m10) (f := 10) (fn := Try.f11) Try.func11 (by kernel_rfl) rfl c10 rfl (by simp [Try.f11]) (by simp [bnds, bnd, nf_sl, nf_int, nf_bool, nf_str, ints_bnd]) (fun _ _ h => by simp [preH, look] at h) ?_
  unfold m10
  simp only [go_sem, Nat.reduceAdd, Nat.reduceMul, Nat.reduceEqDiff, Nat.reduceBEq]
  repeat (refine ⟨(by first | omega | (simp [ints_length, ints_free]; done) | (simp [ints_length, ints_free]; omega)), ?_⟩)
  refine calls_intro (call_ok (n1 := 11) [] (szIntS_ok xs n hx h0 h1) ?_ ?_ ?_ ?_ ?_ ?_ ?_) ?_
  any_goals (first | omega | (simp [hand, bwT, bwC, bwL, ints_bw, ints_take, nilL, nilV, lookT, Arg.ev, handOk, bwOk, bwOks, bwTs, nf_sl, nf_int, nf_bool, ints_bnd, okV, okL, nb, nbs, ints_nb, look, ints_length, bnd, bnds]; done))
  simp only [go_sem, Nat.reduceAdd, Nat.reduceMul, Nat.reduceEqDiff, Nat.reduceBEq, renV, openV]
  refine branch_intro (fun hc => ?_) (fun hc => ?_)
  · simp only [decide_eq_true_eq] at hc
    simp only [go_sem, Nat.reduceAdd, Nat.reduceMul, Nat.reduceEqDiff, Nat.reduceBEq]
    refine ⟨_, Sub.refl _, ?_⟩; simp [FinS, resAV, allP, giveL, giveV, lookT, look, postH, del, nilL, nilV, oneOr, isOwn, ints_length]
    simp [szWentL, hc]
  · simp only [decide_eq_false_iff_not] at hc
    simp only [go_sem, Nat.reduceAdd, Nat.reduceMul, Nat.reduceEqDiff, Nat.reduceBEq]
    repeat (refine ⟨(by first | omega | (simp [ints_length, ints_free]; done) | (simp [ints_length, ints_free]; omega)), ?_⟩)
    have h2 : szL xs.length n ≤ 2 ^ 62 := Int.le_trans (szL_le h0) h1
    have h3 : 0 ≤ szL xs.length n := by omega
    refine calls_intro (call_ok (n1 := 11) [] (szIntS_ok ys (szL xs.length n) hy h3 h2) ?_ ?_ ?_ ?_ ?_ ?_ ?_) ?_
    any_goals (first | omega | (simp [hand, bwT, bwC, bwL, ints_bw, ints_take, nilL, nilV, lookT, Arg.ev, handOk, bwOk, bwOks, bwTs, nf_sl, nf_int, nf_bool, ints_bnd, okV, okL, nb, nbs, ints_nb, look, ints_length, bnd, bnds]; done))
    simp only [go_sem, Nat.reduceAdd, Nat.reduceMul, Nat.reduceEqDiff, Nat.reduceBEq, renV, openV]
    refine branch_intro (fun hc2 => ?_) (fun hc2 => ?_)
    · simp only [decide_eq_true_eq] at hc2
      simp only [go_sem, Nat.reduceAdd, Nat.reduceMul, Nat.reduceEqDiff, Nat.reduceBEq]
      refine ⟨_, Sub.refl _, ?_⟩; simp [FinS, resAV, allP, giveL, giveV, lookT, look, postH, del, nilL, nilV, oneOr, isOwn, ints_length]
      simp [szWentL, hc, hc2]
    · simp only [decide_eq_false_iff_not] at hc2
      simp only [go_sem, Nat.reduceAdd, Nat.reduceMul, Nat.reduceEqDiff, Nat.reduceBEq]
      refine ⟨_, Sub.refl _, ?_⟩; simp [FinS, resAV, allP, giveL, giveV, lookT, look, postH, del, nilL, nilV, oneOr, isOwn, ints_length]
      simp [szWentL, hc, hc2]

theorem toWent_ok (xs ys : List Int) (hx : 8 * xs.length ≤ 2 ^ 47) (hy : 8 * ys.length ≤ 2 ^ 47) : CallOk Try.prog num 11 [.agg [.sl .bw 1 (ints xs), .sl .bw 1 (ints ys)]] [] (.agg [.sl .own 1 (ints xs), .sl .own 1 (ints ys)]) := by
  refine enter (m := m11) (f := 11) (fn := Try.f13) Try.func13 (by kernel_rfl) rfl c11 rfl (by simp [Try.f13]) (by simp [bnds, bnd, nf_sl, nf_int, nf_bool, nf_str, ints_bnd]) (fun _ _ h => by simp [preH, look] at h) ?_
  unfold m11
  simp only [go_sem, Nat.reduceAdd, Nat.reduceMul, Nat.reduceEqDiff, Nat.reduceBEq]
  repeat (refine ⟨(by first | omega | (simp [ints_length, ints_free]; done) | (simp [ints_length, ints_free]; omega)), ?_⟩)
  refine calls_intro (call_ok (n1 := 13) [] (toIntS_ok xs hx) ?_ ?_ ?_ ?_ ?_ ?_ ?_) ?_
  any_goals (first | omega | (simp [hand, bwT, bwC, bwL, ints_bw, ints_take, nilL, nilV, lookT, Arg.ev, handOk, bwOk, bwOks, bwTs, nf_sl, nf_int, nf_bool, ints_bnd, okV, okL, nb, nbs, ints_nb, look, ints_length, bnd, bnds]; done))
  simp only [go_sem, Nat.reduceAdd, Nat.reduceMul, Nat.reduceEqDiff, Nat.reduceBEq, renV, openV]
  repeat (refine ⟨(by first | omega | (simp [ints_length, ints_free]; done) | (simp [ints_length, ints_free]; omega)), ?_⟩)
  refine calls_intro (call_ok (n1 := 14) [] (toIntS_ok ys hy) ?_ ?_ ?_ ?_ ?_ ?_ ?_) ?_
  any_goals (first | omega | (simp [hand, bwT, bwC, bwL, ints_bw, ints_take, nilL, nilV, lookT, Arg.ev, handOk, bwOk, bwOks, bwTs, nf_sl, nf_int, nf_bool, ints_bnd, okV, okL, nb, nbs, ints_nb, look, ints_length, bnd, bnds]; done))
  simp only [go_sem, Nat.reduceAdd, Nat.reduceMul, Nat.reduceEqDiff, Nat.reduceBEq, renV, openV]
  repeat (refine ⟨(by first | omega | (simp [ints_length, ints_free]; done) | (simp [ints_length, ints_free]; omega)), ?_⟩)
  refine ⟨_, Sub.refl _, ?_⟩; simp [FinS, resAV, allP, giveL, giveV, lookT, look, postH, del, nilL, nilV, oneOr, isOwn, ints_length]

/-- What is held. -/
def held (s t : List Int) : List Int := if begins t s then s.drop t.length else []
theorem held_length (s t : List Int) : (held s t).length ≤ s.length := by
  unfold held
  split <;> simp

theorem implHeld_ok (xs ys : List Int) (hx : 8 * xs.length ≤ 2 ^ 47) (hy : 8 * ys.length ≤ 2 ^ 47) : CallOk Try.prog num 13 [.agg [.sl .bw 1 (ints xs), .sl .bw 1 (ints ys)]] [] (.sl .own 1 (ints (held xs ys))) := by
  refine enter (m := m13) (f := 13) (fn := Try.f14) Try.func14 (by kernel_rfl) rfl c13 rfl (by simp [Try.f14]) (by simp [bnds, bnd, nf_sl, nf_int, nf_bool, nf_str, ints_bnd]) (fun _ _ h => by simp [preH, look] at h) ?_
  unfold m13
  simp only [go_sem, Nat.reduceAdd, Nat.reduceMul, Nat.reduceEqDiff, Nat.reduceBEq]
  repeat (refine ⟨(by first | omega | (simp [ints_length, ints_free]; done) | (simp [ints_length, ints_free]; omega)), ?_⟩)
  refine calls_intro (call_ok (n1 := 11) [] (implBegins_ok ys xs (by omega)) ?_ ?_ ?_ ?_ ?_ ?_ ?_) ?_
  any_goals (first | omega | (simp [hand, bwT, bwC, bwL, ints_bw, ints_take, nilL, nilV, lookT, Arg.ev, handOk, bwOk, bwOks, bwTs, nf_sl, nf_int, nf_bool, ints_bnd, okV, okL, nb, nbs, ints_nb, look, ints_length, bnd, bnds]; done))
  simp only [go_sem, Nat.reduceAdd, Nat.reduceMul, Nat.reduceEqDiff, Nat.reduceBEq, renV, openV]
  refine branch_intro (fun hc => ?_) (fun hc => ?_)
  · simp only [Bool.not_eq_true'] at hc
    simp only [go_sem, Nat.reduceAdd, Nat.reduceMul, Nat.reduceEqDiff, Nat.reduceBEq]
    refine ⟨_, Sub.refl _, ?_⟩; simp [FinS, resAV, allP, giveL, giveV, lookT, look, postH, del, nilL, nilV, oneOr, isOwn, ints_length]
    simp [held, hc, ints]
    exact ⟨_, ⟨_, rfl, .inr ⟨_, _, rfl⟩⟩, rfl⟩
  · simp only [Bool.not_eq_false'] at hc
    simp only [go_sem, Nat.reduceAdd, Nat.reduceMul, Nat.reduceEqDiff, Nat.reduceBEq]
    have hl : ys.length ≤ xs.length := by simp [begins] at hc; omega
    repeat (refine ⟨(by first | omega | (simp [ints_length, ints_free]; done) | (simp [ints_length, ints_free]; omega)), ?_⟩)
    refine calls_intro (call_ok (n1 := 11) [] (copyInts_ok (xs.drop ys.length) (by simp; omega)) ?_ ?_ ?_ ?_ ?_ ?_ ?_) ?_
    any_goals (first | omega | (simp [hand, bwT, bwC, bwL, ints_bw, ints_take, nilL, nilV, lookT, Arg.ev, handOk, bwOk, bwOks, bwTs, nf_sl, nf_int, nf_bool, ints_bnd, okV, okL, nb, nbs, ints_nb, look, ints_length, bnd, bnds]; done))
    simp only [go_sem, Nat.reduceAdd, Nat.reduceMul, Nat.reduceEqDiff, Nat.reduceBEq, renV, openV]
    refine ⟨_, Sub.refl _, ?_⟩; simp [FinS, resAV, allP, giveL, giveV, lookT, look, postH, del, nilL, nilV, oneOr, isOwn, ints_length]
    simp [held, hc]

theorem specHeld_ok (xs ys : List Int) (hx : 8 * xs.length ≤ 2 ^ 47) (hy : 8 * ys.length ≤ 2 ^ 47) : CallOk Try.prog num 12 [.agg [.sl .bw 1 (ints xs), .sl .bw 1 (ints ys)]] [] (.sl .own 1 (ints (held xs ys))) := by
  refine enter (m := m12) (f := 12) (fn := Try.f12) Try.func12 (by kernel_rfl) rfl c12 rfl (by simp [Try.f12]) (by simp [bnds, bnd, nf_sl, nf_int, nf_bool, nf_str, ints_bnd]) (fun _ _ h => by simp [preH, look] at h) ?_
  unfold m12
  simp only [go_sem, Nat.reduceAdd, Nat.reduceMul, Nat.reduceEqDiff, Nat.reduceBEq]
  repeat (refine ⟨(by first | omega | (simp [ints_length, ints_free]; done) | (simp [ints_length, ints_free]; omega)), ?_⟩)
  refine calls_intro (call_ok (n1 := 11) [] (specBegins_ok ys xs (by omega)) ?_ ?_ ?_ ?_ ?_ ?_ ?_) ?_
  any_goals (first | omega | (simp [hand, bwT, bwC, bwL, ints_bw, ints_take, nilL, nilV, lookT, Arg.ev, handOk, bwOk, bwOks, bwTs, nf_sl, nf_int, nf_bool, ints_bnd, okV, okL, nb, nbs, ints_nb, look, ints_length, bnd, bnds]; done))
  simp only [go_sem, Nat.reduceAdd, Nat.reduceMul, Nat.reduceEqDiff, Nat.reduceBEq, renV, openV]
  refine branch_intro (fun hc => ?_) (fun hc => ?_)
  · simp only [Bool.not_eq_true'] at hc
    simp only [go_sem, Nat.reduceAdd, Nat.reduceMul, Nat.reduceEqDiff, Nat.reduceBEq]
    repeat (refine ⟨(by first | omega | (simp [ints_length, ints_free]; done) | (simp [ints_length, ints_free]; omega)), ?_⟩)
    refine ⟨_, Sub.refl _, ?_⟩; simp [FinS, resAV, allP, giveL, giveV, lookT, look, postH, del, nilL, nilV, oneOr, isOwn, ints_length]
    simp [held, hc, ints]
  · simp only [Bool.not_eq_false'] at hc
    have hl : ys.length ≤ xs.length := by simp [begins] at hc; omega
    simp only [go_sem, Nat.reduceAdd, Nat.reduceMul, Nat.reduceEqDiff, Nat.reduceBEq]
    repeat (refine ⟨(by first | omega | (simp [ints_length, ints_free]; done) | (simp [ints_length, ints_free]; omega)), ?_⟩)
    refine ⟨_, Sub.refl _, ?_⟩; simp [FinS, resAV, allP, giveL, giveV, lookT, look, postH, del, nilL, nilV, oneOr, isOwn, ints_length]
    simp [held, hc]

theorem eqWent_ok (xs ys us vs : List Int) (hx : xs.length ≤ 2 ^ 47) (hy : ys.length ≤ 2 ^ 47) : CallOk Try.prog num 14 [.agg [.sl .bw 1 (ints xs), .sl .bw 1 (ints ys)], .agg [.sl .bw 1 (ints us), .sl .bw 1 (ints vs)]] [] (.bool (decide (xs = us) && decide (ys = vs))) := by
  refine enter (m := m14) (f := 14) (fn := Try.f15) Try.func15 (by kernel_rfl) rfl c14 rfl (by simp [Try.f15]) (by simp [bnds, bnd, nf_sl, nf_int, nf_bool, nf_str, ints_bnd]) (fun _ _ h => by simp [preH, look] at h) ?_
  unfold m14
  simp only [go_sem, Nat.reduceAdd, Nat.reduceMul, Nat.reduceEqDiff, Nat.reduceBEq]
  repeat (refine ⟨(by first | omega | (simp [ints_length, ints_free]; done) | (simp [ints_length, ints_free]; omega)), ?_⟩)
  refine calls_intro (call_ok (n1 := 12) [] (eqIntS_ok xs us hx) ?_ ?_ ?_ ?_ ?_ ?_ ?_) ?_
  any_goals (first | omega | (simp [hand, bwT, bwC, bwL, ints_bw, ints_take, nilL, nilV, lookT, Arg.ev, handOk, bwOk, bwOks, bwTs, nf_sl, nf_int, nf_bool, ints_bnd, okV, okL, nb, nbs, ints_nb, look, ints_length, bnd, bnds]; done))
  simp only [go_sem, Nat.reduceAdd, Nat.reduceMul, Nat.reduceEqDiff, Nat.reduceBEq, renV, openV]
  refine branch_intro (fun hc => ?_) (fun hc => ?_)
  · simp only [go_sem, Nat.reduceAdd, Nat.reduceMul, Nat.reduceEqDiff, Nat.reduceBEq]
    refine ⟨_, Sub.refl _, ?_⟩; simp [FinS, resAV, allP, giveL, giveV, lookT, look, postH, del, nilL, nilV, oneOr, isOwn, ints_length]
    simp_all
  · simp only [go_sem, Nat.reduceAdd, Nat.reduceMul, Nat.reduceEqDiff, Nat.reduceBEq]
    repeat (refine ⟨(by first | omega | (simp [ints_length, ints_free]; done) | (simp [ints_length, ints_free]; omega)), ?_⟩)
    refine calls_intro (call_ok (n1 := 12) [] (eqIntS_ok ys vs hy) ?_ ?_ ?_ ?_ ?_ ?_ ?_) ?_
    any_goals (first | omega | (simp [hand, bwT, bwC, bwL, ints_bw, ints_take, nilL, nilV, lookT, Arg.ev, handOk, bwOk, bwOks, bwTs, nf_sl, nf_int, nf_bool, ints_bnd, okV, okL, nb, nbs, ints_nb, look, ints_length, bnd, bnds]; done))
    simp only [go_sem, Nat.reduceAdd, Nat.reduceMul, Nat.reduceEqDiff, Nat.reduceBEq, renV, openV]
    refine branch_intro (fun hc2 => ?_) (fun hc2 => ?_)
    · simp only [go_sem, Nat.reduceAdd, Nat.reduceMul, Nat.reduceEqDiff, Nat.reduceBEq]
      refine ⟨_, Sub.refl _, ?_⟩; simp [FinS, resAV, allP, giveL, giveV, lookT, look, postH, del, nilL, nilV, oneOr, isOwn, ints_length]
      simp_all
    · simp only [go_sem, Nat.reduceAdd, Nat.reduceMul, Nat.reduceEqDiff, Nat.reduceBEq]
      refine ⟨_, Sub.refl _, ?_⟩; simp [FinS, resAV, allP, giveL, giveV, lookT, look, postH, del, nilL, nilV, oneOr, isOwn, ints_length]
      simp_all

theorem markWent_ok (xs ys : List Int) (k : Int) (h0 : 0 ≤ k) (h1 : k + xs.length + ys.length < 2 ^ 62) : CallOk Try.prog num 15 [.agg [.ns 0 0 xs.length, .ns 1 0 ys.length], .int .i64 k]
    [(0, some (1, ints xs), some (1, ints (marks k xs.length))), (1, some (1, ints ys), some (1, ints (marks (k + xs.length) ys.length)))] (.int .i64 (k + xs.length + ys.length)) := by
  refine enter (m := m15) (f := 15) (fn := Try.f16) Try.func16 (by kernel_rfl) rfl c15 rfl (by simp [Try.f16]) (by simp [bnds, bnd, nf_sl, nf_int, nf_bool, nf_str, ints_bnd]) (by simp [preH, hb_nil, hb_cons, ints_bnd]) ?_
  unfold m15
  simp only [go_sem, Nat.reduceAdd, Nat.reduceMul, Nat.reduceEqDiff, Nat.reduceBEq]
  repeat (refine ⟨(by first | omega | (simp [ints_length, ints_free]; done) | (simp [ints_length, ints_free]; omega)), ?_⟩)
  refine calls_intro (call_ok (n1 := 11) [(0, 0)] (markIntS_ok xs k h0 (by omega)) ?_ ?_ ?_ ?_ ?_ ?_ ?_) ?_
  any_goals (first | omega | (simp [hand, bwT, bwC, bwL, ints_bw, ints_take, nilL, nilV, lookT, Arg.ev, handOk, bwOk, bwOks, bwTs, nf_sl, nf_int, nf_bool, ints_bnd, okV, okL, nb, ints_nb, look, ints_length, bnd, bnds, renV, renL, ixm, rnm]; done))
  simp only [go_sem, Nat.reduceAdd, Nat.reduceMul, Nat.reduceEqDiff, Nat.reduceBEq, renV, openV]
  repeat (refine ⟨(by first | omega | (simp [ints_length, ints_free]; done) | (simp [ints_length, ints_free]; omega)), ?_⟩)
  refine calls_intro (call_ok (n1 := 11) [(0, 1)] (markIntS_ok ys (k + xs.length) (by omega) (by omega)) ?_ ?_ ?_ ?_ ?_ ?_ ?_) ?_
  any_goals (first | omega | (simp [hand, bwT, bwC, bwL, ints_bw, ints_take, nilL, nilV, lookT, Arg.ev, handOk, bwOk, bwOks, bwTs, nf_sl, nf_int, nf_bool, ints_bnd, okV, okL, nb, ints_nb, look, ints_length, bnd, bnds, renV, renL, ixm, rnm]; done))
  simp only [go_sem, Nat.reduceAdd, Nat.reduceMul, Nat.reduceEqDiff, Nat.reduceBEq, renV, openV]
  refine ⟨_, Sub.refl _, ?_⟩; simp [FinS, resAV, allP, giveL, giveV, lookT, look, postH, del, nilL, nilV, oneOr, isOwn, ints_length]


theorem eqIntS_self (xs : List Int) (hx : xs.length ≤ 2 ^ 47) : CallOk Try.prog num 8 [.sl .bw 1 (ints xs), .sl .bw 1 (ints xs)] [] (.bool true) := by
  have := eqIntS_ok xs xs hx
  simpa only [decide_true] using this

theorem exactHeld_ok (xs ys : List Int) (hx : xs.length < 2 ^ 63) (hy : ys.length < 2 ^ 63) : CallOk Try.prog num 9 [.agg [.sl .bw 1 (ints xs), .sl .bw 1 (ints ys)]] [] (.bool true) := by
  refine enter (m := m9) (f := 9) (fn := Try.f4) Try.func4 (by kernel_rfl) rfl c9 rfl (by simp [Try.f4]) (by simp [bnds, bnd, nf_sl, nf_int, nf_bool, nf_str, ints_bnd]) (fun _ _ h => by simp [preH, look] at h) ?_
  unfold m9
  simp only [go_sem, Nat.reduceAdd, Nat.reduceMul, Nat.reduceEqDiff, Nat.reduceBEq]
  repeat (refine ⟨(by first | omega | (simp [ints_length, ints_free]; done) | (simp [ints_length, ints_free]; omega)), ?_⟩)
  refine calls_intro (call_ok0 [] (szWent_ok xs ys 1048576 hx hy (by omega) (by omega)) ?_ ?_ ?_ ?_ ?_ ?_) ?_
  any_goals (first | omega | (simp [hand, bwT, bwC, bwL, ints_bw, ints_take, nilL, nilV, lookT, Arg.ev, handOk, bwOk, bwOks, bwTs, nf_sl, nf_int, nf_bool, ints_bnd, okV, okL, nb, nbs, ints_nb, look, ints_length, bnd, bnds, renV, renL, ixm, rnm, apart, needs, rdOnly, pdOnly]; done) | (simp [apart, fresh, openV, openVs, renV, renL, rnm]; done))
  try simp only [go_sem, Nat.reduceAdd, Nat.reduceMul, Nat.reduceEqDiff, Nat.reduceBEq]
  repeat (refine ⟨(by first | omega | (simp [ints_length, ints_free]; done) | (simp [ints_length, ints_free]; omega)), ?_⟩)
  refine branch_intro (fun hc => ?_) (fun hc => ?_)
  · simp only [go_sem, Nat.reduceAdd, Nat.reduceMul, Nat.reduceEqDiff, Nat.reduceBEq]
    refine ⟨_, Sub.refl _, ?_⟩; simp [FinS, resAV, allP, giveL, giveV, lookT, look, postH, del, nilL, nilV, oneOr, isOwn, ints_length]
  · simp only [decide_eq_false_iff_not] at hc
    have hz : xs.length + ys.length ≤ 1048576 := by
      unfold szWentL szL at hc
      split at hc <;> (try split at hc) <;> (try split at hc) <;> omega
    have hh := held_length xs ys
    simp only [go_sem, Nat.reduceAdd, Nat.reduceMul, Nat.reduceEqDiff, Nat.reduceBEq]
    repeat (refine ⟨(by first | omega | (simp [ints_length, ints_free]; done) | (simp [ints_length, ints_free]; omega)), ?_⟩)
    refine calls_intro (call_ok0 [] (toWent_ok xs ys (by omega) (by omega)) ?_ ?_ ?_ ?_ ?_ ?_) ?_
    any_goals (first | omega | (simp [hand, bwT, bwC, bwL, ints_bw, ints_take, nilL, nilV, lookT, Arg.ev, handOk, bwOk, bwOks, bwTs, nf_sl, nf_int, nf_bool, ints_bnd, okV, okL, nb, nbs, ints_nb, look, ints_length, bnd, bnds, renV, renL, ixm, rnm, apart, needs, rdOnly, pdOnly]; done) | (simp [apart, fresh, openV, openVs, renV, renL, rnm]; done))
    try simp only [go_sem, Nat.reduceAdd, Nat.reduceMul, Nat.reduceEqDiff, Nat.reduceBEq]
    repeat (refine ⟨(by first | omega | (simp [ints_length, ints_free]; done) | (simp [ints_length, ints_free]; omega)), ?_⟩)
    refine calls_intro (call_ok0 [] (specHeld_ok xs ys (by omega) (by omega)) ?_ ?_ ?_ ?_ ?_ ?_) ?_
    any_goals (first | omega | (simp [hand, bwT, bwC, bwL, ints_bw, ints_take, nilL, nilV, lookT, Arg.ev, handOk, bwOk, bwOks, bwTs, nf_sl, nf_int, nf_bool, ints_bnd, okV, okL, nb, nbs, ints_nb, look, ints_length, bnd, bnds, renV, renL, ixm, rnm, apart, needs, rdOnly, pdOnly]; done) | (simp [apart, fresh, openV, openVs, renV, renL, rnm]; done))
    try simp only [go_sem, Nat.reduceAdd, Nat.reduceMul, Nat.reduceEqDiff, Nat.reduceBEq]
    repeat (refine ⟨(by first | omega | (simp [ints_length, ints_free]; done) | (simp [ints_length, ints_free]; omega)), ?_⟩)
    refine calls_intro (call_ok0 [] (toWent_ok xs ys (by omega) (by omega)) ?_ ?_ ?_ ?_ ?_ ?_) ?_
    any_goals (first | omega | (simp [hand, bwT, bwC, bwL, ints_bw, ints_take, nilL, nilV, lookT, Arg.ev, handOk, bwOk, bwOks, bwTs, nf_sl, nf_int, nf_bool, ints_bnd, okV, okL, nb, nbs, ints_nb, look, ints_length, bnd, bnds, renV, renL, ixm, rnm, apart, needs, rdOnly, pdOnly]; done) | (simp [apart, fresh, openV, openVs, renV, renL, rnm]; done))
    try simp only [go_sem, Nat.reduceAdd, Nat.reduceMul, Nat.reduceEqDiff, Nat.reduceBEq]
    repeat (refine ⟨(by first | omega | (simp [ints_length, ints_free]; done) | (simp [ints_length, ints_free]; omega)), ?_⟩)
    refine calls_intro (call_ok0 [] (implHeld_ok xs ys (by omega) (by omega)) ?_ ?_ ?_ ?_ ?_ ?_) ?_
    any_goals (first | omega | (simp [hand, bwT, bwC, bwL, ints_bw, ints_take, nilL, nilV, lookT, Arg.ev, handOk, bwOk, bwOks, bwTs, nf_sl, nf_int, nf_bool, ints_bnd, okV, okL, nb, nbs, ints_nb, look, ints_length, bnd, bnds, renV, renL, ixm, rnm, apart, needs, rdOnly, pdOnly]; done) | (simp [apart, fresh, openV, openVs, renV, renL, rnm]; done))
    try simp only [go_sem, Nat.reduceAdd, Nat.reduceMul, Nat.reduceEqDiff, Nat.reduceBEq]
    repeat (refine ⟨(by first | omega | (simp [ints_length, ints_free]; done) | (simp [ints_length, ints_free]; omega)), ?_⟩)
    refine calls_intro (call_ok0 [] (eqIntS_self (held xs ys) (by omega)) ?_ ?_ ?_ ?_ ?_ ?_) ?_
    any_goals (first | omega | (simp [hand, bwT, bwC, bwL, ints_bw, ints_take, nilL, nilV, lookT, Arg.ev, handOk, bwOk, bwOks, bwTs, nf_sl, nf_int, nf_bool, ints_bnd, okV, okL, nb, nbs, ints_nb, look, ints_length, bnd, bnds, renV, renL, ixm, rnm, apart, needs, rdOnly, pdOnly]; done) | (simp [apart, fresh, openV, openVs, renV, renL, rnm]; done))
    try simp only [go_sem, Nat.reduceAdd, Nat.reduceMul, Nat.reduceEqDiff, Nat.reduceBEq]
    repeat (refine ⟨(by first | omega | (simp [ints_length, ints_free]; done) | (simp [ints_length, ints_free]; omega)), ?_⟩)
    refine dcall_intro (call_ok0 [] (toWent_ok xs ys (by omega) (by omega)) ?_ ?_ ?_ ?_ ?_ ?_) ?_ ?_
    any_goals (first | omega | (simp [hand, bwT, bwC, bwL, ints_bw, ints_take, nilL, nilV, lookT, Arg.ev, handOk, bwOk, bwOks, bwTs, nf_sl, nf_int, nf_bool, ints_bnd, okV, okL, nb, nbs, ints_nb, look, ints_length, bnd, bnds, renV, renL, ixm, rnm, apart, needs, rdOnly, pdOnly]; done) | (simp [apart, fresh, openV, openVs, renV, renL, rnm]; done))
    try simp only [go_sem, Nat.reduceAdd, Nat.reduceMul, Nat.reduceEqDiff, Nat.reduceBEq]
    repeat (refine ⟨(by first | omega | (simp [ints_length, ints_free]; done) | (simp [ints_length, ints_free]; omega)), ?_⟩)
    refine dcall_intro (call_ok0 [] (eqWent_ok xs ys xs ys (by omega) (by omega)) ?_ ?_ ?_ ?_ ?_ ?_) ?_ ?_
    any_goals (first | omega | (simp [hand, bwT, bwC, bwL, ints_bw, ints_take, nilL, nilV, lookT, Arg.ev, handOk, bwOk, bwOks, bwTs, nf_sl, nf_int, nf_bool, ints_bnd, okV, okL, nb, nbs, ints_nb, look, ints_length, bnd, bnds, renV, renL, ixm, rnm, apart, needs, rdOnly, pdOnly]; done) | (simp [apart, fresh, openV, openVs, renV, renL, rnm]; done))
    try simp only [go_sem, Nat.reduceAdd, Nat.reduceMul, Nat.reduceEqDiff, Nat.reduceBEq]
    repeat (refine ⟨(by first | omega | (simp [ints_length, ints_free]; done) | (simp [ints_length, ints_free]; omega)), ?_⟩)
    have d1 : decide ((1 : Int) + xs.length + ys.length < 0) = false := by simp; omega
    refine calls_intro (call_ok0 [(0, 14), (1, 15)] (markWent_ok xs ys 1 (by omega) (by omega)) ?_ ?_ ?_ ?_ ?_ ?_) ?_
    any_goals (first | omega | (simp [hand, bwT, bwC, bwL, ints_bw, ints_take, nilL, nilV, lookT, Arg.ev, handOk, bwOk, bwOks, bwTs, nf_sl, nf_int, nf_bool, ints_bnd, okV, okL, nb, nbs, ints_nb, look, ints_length, bnd, bnds, renV, renL, ixm, rnm, apart, needs, rdOnly, pdOnly]; done) | (simp [apart, fresh, openV, openVs, renV, renL, rnm]; done))
    try simp only [go_sem, Nat.reduceAdd, Nat.reduceMul, Nat.reduceEqDiff, Nat.reduceBEq]
    repeat (refine ⟨(by first | omega | (simp [ints_length, ints_free]; done) | (simp [ints_length, ints_free]; omega)), ?_⟩)
    have d2 : decide ((1 : Int) + (held xs ys).length < 0) = false := by simp; omega
    simp only [go_sem, Nat.reduceAdd, Nat.reduceMul, Nat.reduceEqDiff, Nat.reduceBEq, d1]
    repeat (refine ⟨(by first | omega | (simp [ints_length, ints_free]; done) | (simp [ints_length, ints_free]; omega)), ?_⟩)
    refine calls_intro (call_ok0 [] (eqIntS_self (held xs ys) (by omega)) ?_ ?_ ?_ ?_ ?_ ?_) ?_
    any_goals (first | omega | (simp [hand, bwT, bwC, bwL, ints_bw, ints_take, nilL, nilV, lookT, Arg.ev, handOk, bwOk, bwOks, bwTs, nf_sl, nf_int, nf_bool, ints_bnd, okV, okL, nb, nbs, ints_nb, look, ints_length, bnd, bnds, renV, renL, ixm, rnm, apart, needs, rdOnly, pdOnly]; done) | (simp [apart, fresh, openV, openVs, renV, renL, rnm]; done))
    try simp only [go_sem, Nat.reduceAdd, Nat.reduceMul, Nat.reduceEqDiff, Nat.reduceBEq]
    repeat (refine ⟨(by first | omega | (simp [ints_length, ints_free]; done) | (simp [ints_length, ints_free]; omega)), ?_⟩)
    refine calls_intro (call_ok0 [(0, 17)] (markIntS_ok (held xs ys) 1 (by omega) (by omega)) ?_ ?_ ?_ ?_ ?_ ?_) ?_
    any_goals (first | omega | (simp [hand, bwT, bwC, bwL, ints_bw, ints_take, nilL, nilV, lookT, Arg.ev, handOk, bwOk, bwOks, bwTs, nf_sl, nf_int, nf_bool, ints_bnd, okV, okL, nb, nbs, ints_nb, look, ints_length, bnd, bnds, renV, renL, ixm, rnm, apart, needs, rdOnly, pdOnly]; done) | (simp [apart, fresh, openV, openVs, renV, renL, rnm]; done))
    try simp only [go_sem, Nat.reduceAdd, Nat.reduceMul, Nat.reduceEqDiff, Nat.reduceBEq]
    repeat (refine ⟨(by first | omega | (simp [ints_length, ints_free]; done) | (simp [ints_length, ints_free]; omega)), ?_⟩)
    refine calls_intro (call_ok0 [] (heldIntS_ok (held xs ys).length 1 (by omega) (by omega)) ?_ ?_ ?_ ?_ ?_ ?_) ?_
    any_goals (first | omega | (simp [hand, bwT, bwC, bwL, ints_bw, ints_take, nilL, nilV, lookT, Arg.ev, handOk, bwOk, bwOks, bwTs, nf_sl, nf_int, nf_bool, ints_bnd, okV, okL, nb, nbs, ints_nb, look, ints_length, bnd, bnds, renV, renL, ixm, rnm, apart, needs, rdOnly, pdOnly]; done) | (simp [apart, fresh, openV, openVs, renV, renL, rnm]; done))
    try simp only [go_sem, Nat.reduceAdd, Nat.reduceMul, Nat.reduceEqDiff, Nat.reduceBEq]
    repeat (refine ⟨(by first | omega | (simp [ints_length, ints_free]; done) | (simp [ints_length, ints_free]; omega)), ?_⟩)
    simp only [go_sem, Nat.reduceAdd, Nat.reduceMul, Nat.reduceEqDiff, Nat.reduceBEq, d2]
    repeat (refine ⟨(by first | omega | (simp [ints_length, ints_free]; done) | (simp [ints_length, ints_free]; omega)), ?_⟩)
    refine calls_intro (call_ok0 [] (toWent_ok xs ys (by omega) (by omega)) ?_ ?_ ?_ ?_ ?_ ?_) ?_
    any_goals (first | omega | (simp [hand, bwT, bwC, bwL, ints_bw, ints_take, nilL, nilV, lookT, Arg.ev, handOk, bwOk, bwOks, bwTs, nf_sl, nf_int, nf_bool, ints_bnd, okV, okL, nb, nbs, ints_nb, look, ints_length, bnd, bnds, renV, renL, ixm, rnm, apart, needs, rdOnly, pdOnly]; done) | (simp [apart, fresh, openV, openVs, renV, renL, rnm]; done))
    try simp only [go_sem, Nat.reduceAdd, Nat.reduceMul, Nat.reduceEqDiff, Nat.reduceBEq]
    repeat (refine ⟨(by first | omega | (simp [ints_length, ints_free]; done) | (simp [ints_length, ints_free]; omega)), ?_⟩)
    refine calls_intro (call_ok0 [] (implHeld_ok xs ys (by omega) (by omega)) ?_ ?_ ?_ ?_ ?_ ?_) ?_
    any_goals (first | omega | (simp [hand, bwT, bwC, bwL, ints_bw, ints_take, nilL, nilV, lookT, Arg.ev, handOk, bwOk, bwOks, bwTs, nf_sl, nf_int, nf_bool, ints_bnd, okV, okL, nb, nbs, ints_nb, look, ints_length, bnd, bnds, renV, renL, ixm, rnm, apart, needs, rdOnly, pdOnly]; done) | (simp [apart, fresh, openV, openVs, renV, renL, rnm]; done))
    try simp only [go_sem, Nat.reduceAdd, Nat.reduceMul, Nat.reduceEqDiff, Nat.reduceBEq]
    repeat (refine ⟨(by first | omega | (simp [ints_length, ints_free]; done) | (simp [ints_length, ints_free]; omega)), ?_⟩)
    refine calls_intro (call_ok0 [] (eqIntS_self (held xs ys) (by omega)) ?_ ?_ ?_ ?_ ?_ ?_) ?_
    any_goals (first | omega | (simp [hand, bwT, bwC, bwL, ints_bw, ints_take, nilL, nilV, lookT, Arg.ev, handOk, bwOk, bwOks, bwTs, nf_sl, nf_int, nf_bool, ints_bnd, okV, okL, nb, nbs, ints_nb, look, ints_length, bnd, bnds, renV, renL, ixm, rnm, apart, needs, rdOnly, pdOnly]; done) | (simp [apart, fresh, openV, openVs, renV, renL, rnm]; done))
    try simp only [go_sem, Nat.reduceAdd, Nat.reduceMul, Nat.reduceEqDiff, Nat.reduceBEq]
    repeat (refine ⟨(by first | omega | (simp [ints_length, ints_free]; done) | (simp [ints_length, ints_free]; omega)), ?_⟩)
    refine calls_intro (call_ok0 [] (heldIntS_ok (held xs ys).length 1 (by omega) (by omega)) ?_ ?_ ?_ ?_ ?_ ?_) ?_
    any_goals (first | omega | (simp [hand, bwT, bwC, bwL, ints_bw, ints_take, nilL, nilV, lookT, Arg.ev, handOk, bwOk, bwOks, bwTs, nf_sl, nf_int, nf_bool, ints_bnd, okV, okL, nb, nbs, ints_nb, look, ints_length, bnd, bnds, renV, renL, ixm, rnm, apart, needs, rdOnly, pdOnly]; done) | (simp [apart, fresh, openV, openVs, renV, renL, rnm]; done))
    try simp only [go_sem, Nat.reduceAdd, Nat.reduceMul, Nat.reduceEqDiff, Nat.reduceBEq]
    repeat (refine ⟨(by first | omega | (simp [ints_length, ints_free]; done) | (simp [ints_length, ints_free]; omega)), ?_⟩)
    simp only [go_sem, Nat.reduceAdd, Nat.reduceMul, Nat.reduceEqDiff, Nat.reduceBEq, d2]
    repeat (refine ⟨(by first | omega | (simp [ints_length, ints_free]; done) | (simp [ints_length, ints_free]; omega)), ?_⟩)
    refine ⟨_, Sub.refl _, ?_⟩; simp [FinS, resAV, allP, giveL, giveV, lookT, look, postH, del, nilL, nilV, oneOr, isOwn, ints_length]


end Go.Sep
