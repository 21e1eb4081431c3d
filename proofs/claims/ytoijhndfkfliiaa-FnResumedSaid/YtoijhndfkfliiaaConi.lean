/- Contracts of functions. -/
import Derived.Test.YtoijhndfkfliiaaCong
import Derived.Test.YtoijhndfkfliiaaConh
namespace Go.Sep
open Go.Proofs
set_option linter.unusedSimpArgs false
set_option linter.unusedVariables false
set_option maxRecDepth 100000
def m46 : MFn := ⟨48, [.cell 6 3 true, .t 7], .seq (xr [xo 3 (.box (.t 0)), xo 4 (.box (.t 1)), xo 6 (.alloc [.nil, .nil, .nil]), xo 7 (.mv (xi 0))]) (.seq (.seq (xr [xo 10 (.load 2 true (.t 3)), xo 11 (.load 3 true (.t 4)), xo 12 (.call 63 [false, false] [.t 10, .t 11]), xo 13 (.un .«not» (.t 12))]) (.cond 13 (.seq (xr [xo 14 (.build [.nil, .nil, .nil] []), ⟨none, .store 3 (.t 6) (.t 14), none⟩, xo 7 (.mv (xi 1))]) (.ret)) (.skip))) (.seq (.seq (xr [xv 15 2, xo 16 (.fad 0 (.t 4)), xo 17 (.load 1 false (.t 16)), xo 18 (.len (.t 17)), xo 19 (.bin .sub (.t 18) (xi 1)), xo 20 (.call 64 [false, false, false] [.t 15, xi 0, .t 19]), xo 21 (.un .«not» (.t 20))]) (.cond 21 (.seq (xr [xo 22 (.load 3 true (.t 4)), xo 23 (.call 65 [false] [.t 22]), ⟨none, .store 3 (.t 6) (.t 23), none⟩, xo 7 (.mv (xi 2))]) (.ret)) (.skip))) (.seq (.seq (xr [xo 24 (.fad 0 (.t 4)), xo 25 (.load 1 false (.t 24)), xv 26 2, xo 27 (.iad 3 (.t 25) (.t 26)), xo 28 (.fad 2 (.t 27)), xo 29 (.load 1 false (.t 28)), xo 30 (.bin .neq (.t 29) (xi 0))]) (.cond 30 (.seq (xr [xo 31 (.load 3 true (.t 4)), xo 32 (.call 65 [false] [.t 31]), ⟨none, .store 3 (.t 6) (.t 32), none⟩, xo 7 (.mv (xi 3))]) (.ret)) (.skip))) (.seq (.dreg (.take 0 (xo 34 (.load 2 true (.t 3))) (.take 1 (xo 35 (.load 3 true (.t 4))) (.take 3 (xv 37 2) (.both 2 [1] (xo 36 (.call 65 [false] [.t 35])) (.both 4 [0, 3] (xo 38 (.call 66 [false, true, false] [.t 34, .t 36, .t 37])) (.take 5 (xv 33 38) (.take 6 (xo 39 (.ext (.t 33) 0)) (.take 7 (xo 40 (.ext (.t 33) 1)) (.only 8 [] (xo 8 (.alloc [.nil, .nil, .nil])) (.only 9 [0, 1, 3, 5, 6] ⟨none, .store 3 (.t 8) (.t 39), none⟩ (.only 10 [0, 1, 3, 5, 6, 7] (xv 9 40) (.done))))))) 8 [] (xo 8 (.alloc [.nil, .nil, .nil])) (.only 4 [0, 3] (xo 38 (.call 66 [false, true, false] [.t 34, .t 36, .t 37])) (.only 5 [] (xv 33 38) (.take 6 (xo 39 (.ext (.t 33) 0)) (.take 7 (xo 40 (.ext (.t 33) 1)) (.only 9 [0, 1, 3, 6] ⟨none, .store 3 (.t 8) (.t 39), none⟩ (.only 10 [0, 1, 3, 6, 7] (xv 9 40) (.done)))))))) 8 [] (xo 8 (.alloc [.nil, .nil, .nil])) (.only 2 [1] (xo 36 (.call 65 [false] [.t 35])) (.only 4 [0, 3] (xo 38 (.call 66 [false, true, false] [.t 34, .t 36, .t 37])) (.only 5 [] (xv 33 38) (.take 6 (xo 39 (.ext (.t 33) 0)) (.take 7 (xo 40 (.ext (.t 33) 1)) (.only 9 [0, 1, 3, 6] ⟨none, .store 3 (.t 8) (.t 39), none⟩ (.only 10 [0, 1, 3, 6, 7] (xv 9 40) (.done))))))))))))) (.seq (.seq (xr [xv 41 9, xo 42 (.bin .neq (.t 41) (xi 0))]) (.cond 42 (.seq (xr [xo 43 (.load 3 true (.t 4)), xo 44 (.call 65 [false] [.t 43]), xv 45 9, ⟨none, .store 3 (.t 6) (.t 44), none⟩, xv 7 45]) (.ret)) (.skip))) (.seq (xr [xo 46 (.load 3 true (.t 8)), xv 47 9, ⟨none, .store 3 (.t 6) (.t 46), none⟩, xv 7 47]) (.ret)))))))⟩
theorem c46 : chkC Try.prog num Try.f56.ntmps m46.body ((Try.f56.body).getD .skip) = true := by kernel_rfl
open Nat renaming reduceAdd → qA, reduceMul → qB, reduceEqDiff → qC, reduceBEq → qD
open Int renaming reduceToNat → qE, reduceEq → qF, reduceLT → qG, reduceLE → qH
open List renaming getD_eq_getElem?_getD → gD

theorem codes_send (c : Chan) (v : Int) (h : chanOk c = true) : chanSend c v = if c.closed then (c, 2) else if (c.list.length : Int) = c.cap then (c, 1) else ({ c with list := c.list ++ [v] }, 0) := by
  unfold chanSend
  cases hc : c.closed <;> simp [-List.getD_eq_getElem?_getD, h]

theorem goTo_eq (p : Prog) (s : Source) (i : Nat) (t : Thread) (next : Int) (hi : i < s.ths.length) (h0 : 0 ≤ next) : l4GoF p ⟨s.ths.set i t, s.chs, s.tr⟩ i next = goTo p s i t true next := by
  unfold l4GoF goTo
  have hg : (s.ths.set i t).getD i default = t := getD_set_self _ _ _ _ hi
  simp only [hg, List.set_set]
  by_cases hn : ((p.bods.getD i []).length : Int) ≤ next
  · have : within next 0 ((p.bods.getD i []).length - 1) = false := by rw [within_eq]; simp [-List.getD_eq_getElem?_getD]; omega
    rw [if_pos this, if_pos (.inr hn)]
  · have : within next 0 ((p.bods.getD i []).length - 1) = true := by rw [within_eq]; simp [-List.getD_eq_getElem?_getD]; omega
    rw [if_neg (by rw [this]; simp), if_neg (by simp [-List.getD_eq_getElem?_getD]; omega)]

/-- What the reference's step does is what the program's does. -/
def specStep (p : Prog) (s : Source) (i : Nat) : Source × Int := if (s.ths.getD i default).st ≠ 0 then (s, 3) else if (l4StepF p s i).2 = 0 then l4StepF p s i else (s, (l4StepF p s i).2)

theorem chanAt_ok {p : Prog} {s : Source} (h : sourceOk p s = true) {j : Nat} (hj : j < s.chs.length) : chanOk (s.chs.getD j default) = true := by
  simp only [sourceOk, Bool.and_eq_true] at h
  have := List.all_eq_true.1 h.2 j (List.mem_range.2 hj)
  simp only [Bool.and_eq_true] at this
  exact this.1

theorem chanOk_cap {c : Chan} (h : chanOk c = true) : 1 ≤ c.cap ∧ (c.list.length : Int) ≤ c.cap := by
  simp only [chanOk, Bool.and_eq_true, within_iff, decide_eq_true_eq] at h
  omega

theorem goTo_not (p : Prog) (s : Source) (i : Nat) (t : Thread) (next : Int) : goTo p s i t false next = ⟨s.ths.set i ⟨t.at_, t.regs, 2⟩, s.chs, s.tr⟩ := by
  unfold goTo
  rw [if_pos (.inl rfl)]

set_option maxHeartbeats 4000000 in
theorem specStep_eq (p : Prog) (s : Source) (i : Nat) (h : sourceOk p s = true) (hi : i < s.ths.length) : specStep p s i = sourceStep p s i := by
  have ha := at_of h hi
  have hw : within (i : Int) 0 (s.ths.length - 1) = true := by rw [within_iff]; omega
  have hself : s.ths.set i (s.ths.getD i default) = s.ths := set_getD_self s.ths i default hi
  have e1 := ha.at0
  unfold specStep sourceStep sourceCode
  simp only [hw, Bool.true_eq_false, if_false, Int.toNat_natCast]
  by_cases hst : (s.ths.getD i default).st = 0
  case neg => simp [-List.getD_eq_getElem?_getD, hst]
  simp only [hst, ne_eq, not_true_eq_false, if_false, false_or]
  have hop := ha.op
  by_cases h1 : (ins p s i).op = 1
  · have := goTo_eq p s i (setReg (s.ths.getD i default) (ins p s i).r (ins p s i).n) ((s.ths.getD i default).at_ + 1) hi (by omega)
    simp [-List.getD_eq_getElem?_getD, l4StepF, doStep, h1, this]
  by_cases h2 : (ins p s i).op = 2 ∨ (ins p s i).op = 3 ∨ (ins p s i).op = 4
  · have := goTo_eq p s i (setReg (s.ths.getD i default) (ins p s i).r (compute (ins p s i).op (reg (s.ths.getD i default) (ins p s i).a) (reg (s.ths.getD i default) (ins p s i).b))) ((s.ths.getD i default).at_ + 1) hi (by omega)
    have h10 : ¬ (ins p s i).op = 10 := by omega
    have h5 : ¬ (ins p s i).op = 5 := by omega
    have h6 : ¬ (ins p s i).op = 6 := by omega
    simp only [l4StepF, doStep, h1, h2, h10, h5, h6, this, if_true, if_false, false_and, not_false_eq_true, and_self]
  by_cases h10 : (ins p s i).op = 10
  · by_cases hn : (s.tr.length : Int) = 4000
    · simp [-List.getD_eq_getElem?_getD, l4StepF, h10, hn]
    · have := goTo_eq p ⟨s.ths, s.chs, s.tr ++ [⟨i, reg (s.ths.getD i default) (ins p s i).a⟩]⟩ i (s.ths.getD i default) ((s.ths.getD i default).at_ + 1) hi (by omega)
      simp only [hself] at this
      simp [-List.getD_eq_getElem?_getD, l4StepF, doStep, h10, hn, this]
  by_cases h11 : (ins p s i).op = 11
  · have := goTo_eq p s i (s.ths.getD i default) (ins p s i).n hi (ha.jm (.inl h11)).1
    simp only [hself] at this
    simp [-List.getD_eq_getElem?_getD, l4StepF, doStep, h11, this]
  by_cases h12 : (ins p s i).op = 12
  · have := goTo_eq p s i (s.ths.getD i default) (if reg (s.ths.getD i default) (ins p s i).a = 0 then (ins p s i).n else (s.ths.getD i default).at_ + 1) hi (by have := (ha.jm (.inr h12)).1; split <;> omega)
    simp only [hself] at this
    simp [-List.getD_eq_getElem?_getD, l4StepF, doStep, h12, this]
  by_cases h13 : (ins p s i).op = 13
  · simp [-List.getD_eq_getElem?_getD, l4StepF, doStep, h13]
  obtain ⟨n0, n1⟩ := ha.ch (by omega) (by omega)
  have hc := chanAt_ok h n1
  obtain ⟨c1, c2⟩ := chanOk_cap hc
  have h21 : ¬ (ins p s i).op = 2 := fun e => h2 (.inl e)
  have h22 : ¬ (ins p s i).op = 3 := fun e => h2 (.inr (.inl e))
  have h23 : ¬ (ins p s i).op = 4 := fun e => h2 (.inr (.inr e))
  have key : ∀ (t : Thread) (c : Chan), l4GoF p ⟨s.ths.set i t, s.chs.set (ins p s i).n.toNat c, s.tr⟩ i ((s.ths.getD i default).at_ + 1) = goTo p ⟨s.ths, s.chs.set (ins p s i).n.toNat c, s.tr⟩ i t true ((s.ths.getD i default).at_ + 1) := fun t c => goTo_eq p ⟨s.ths, s.chs.set (ins p s i).n.toNat c, s.tr⟩ i t _ hi (by omega)
  obtain ⟨c, hC⟩ : ∃ c, s.chs.getD (ins p s i).n.toNat default = c := ⟨_, rfl⟩
  rw [hC] at hc c1 c2
  by_cases h5 : (ins p s i).op = 5
  · cases hcl : c.closed
    · by_cases hf : (c.list.length : Int) = c.cap
      · simp [-List.getD_eq_getElem?_getD, l4StepF, l4ChanF, hC, h5, codes_send c _ hc, hcl, hf]
      · simp [-List.getD_eq_getElem?_getD, l4StepF, doStep, l4ChanF, chanStep, hC, h5, codes_send c _ hc, hcl, hf, key]
    · simp [-List.getD_eq_getElem?_getD, l4StepF, doStep, l4ChanF, chanStep, hC, h5, codes_send c _ hc, hcl, goTo_not]
  by_cases h7 : (ins p s i).op = 7
  · cases hcl : c.closed
    · by_cases hf : (c.list.length : Int) = c.cap
      · simp [-List.getD_eq_getElem?_getD, l4StepF, doStep, l4ChanF, chanStep, hC, h7, codes_send c _ hc, hcl, hf, key]
      · simp [-List.getD_eq_getElem?_getD, l4StepF, doStep, l4ChanF, chanStep, hC, h7, codes_send c _ hc, hcl, hf, key]
    · simp [-List.getD_eq_getElem?_getD, l4StepF, doStep, l4ChanF, chanStep, hC, h7, codes_send c _ hc, hcl, goTo_not]
  by_cases h9 : (ins p s i).op = 9
  · cases hcl : c.closed
    · simp [-List.getD_eq_getElem?_getD, l4StepF, doStep, l4ChanF, chanStep, chanClose, hC, h9, hc, hcl, key]
    · simp [-List.getD_eq_getElem?_getD, l4StepF, doStep, l4ChanF, chanStep, chanClose, hC, h9, hc, hcl, goTo_not]
  by_cases h6 : (ins p s i).op = 6
  · by_cases hl : 0 < c.list.length
    · have hl' : ¬ c.list = [] := by intro e; rw [e] at hl; simp at hl
      simp [-List.getD_eq_getElem?_getD, l4StepF, doStep, l4ChanF, chanStep, chanTake, hC, h6, hc, hl, hl', key]
    · have hl' : c.list = [] := List.length_eq_zero_iff.1 (by omega)
      cases hcl : c.closed
      · simp [-List.getD_eq_getElem?_getD, l4StepF, doStep, l4ChanF, chanStep, chanTake, hC, h6, hc, hl, hl', hcl]
      · simp [-List.getD_eq_getElem?_getD, l4StepF, doStep, l4ChanF, chanStep, chanTake, hC, h6, hc, hl, hl', hcl, key]
  have h8 : (ins p s i).op = 8 := by omega
  by_cases hl : 0 < c.list.length
  · have hl' : ¬ c.list = [] := by intro e; rw [e] at hl; simp at hl
    simp [-List.getD_eq_getElem?_getD, l4StepF, doStep, l4ChanF, chanStep, chanTake, hC, h8, hc, hl, hl', key, numb]
    rfl
  · have hl' : c.list = [] := List.length_eq_zero_iff.1 (by omega)
    cases hcl : c.closed
    · simp [-List.getD_eq_getElem?_getD, l4StepF, doStep, l4ChanF, chanStep, chanTake, hC, h8, hc, hl, hl', hcl, key, numb]
      rfl
    · simp [-List.getD_eq_getElem?_getD, l4StepF, doStep, l4ChanF, chanStep, chanTake, hC, h8, hc, hl, hl', hcl, key, numb, setReg]
      rfl

def specSourceStep (p : Prog) (s : Source) (who : Int) : Source × Int := if sourceOk p s then sourceStep p s who else (⟨[], [], []⟩, 1)

theorem notesOk_len {p : Prog} {s : Source} (h : sourceOk p s = true) : s.tr.length ≤ 4000 := by
  simp only [sourceOk, notesOk, Bool.and_eq_true, decide_eq_true_eq] at h
  omega

set_option maxHeartbeats 4000000 in
theorem specSourceStep_ok (p : Prog) (s : Source) (who : Int) (hp : SmallP p) (hs : Small s) : CallOk Try.prog num 46 [.agg (progC .bw p), .agg (sourceC .bw s), .int .i64 who] [] (.tup [.agg (sourceC .own (specSourceStep p s who).1), .int .i64 (specSourceStep p s who).2]) := by
  have hs1 := hs.ths
  refine enter (m := m46) (f := 46) (fn := Try.f56) Try.func56 (by kernel_rfl) rfl c46 rfl (by simp [Try.f56]) (by simp [bnds, bnd, nf_sl, nf_int, nf_bool, nf_str, ints_bnd]) (fun _ _ h => by simp [preH, look] at h) ?_
  unfold m46
  have hw1 : IntKind.i64.wrap ((s.ths.length : Int) - 1) = (s.ths.length : Int) - 1 := wrap64 (by omega) (by omega)
  simp only [go_sem, qA, qB, qC, qD, qE, qF, qG, qH, hw1]
  repeat refine K ?_
  refine CA [] (specSourceOk_ok p s hp hs) ?_
  try simp only [go_sem, qA, qB, qC, qD, qE, qF, qG, qH]
  repeat refine K ?_
  cases h : sourceOk p s
  · simp only [go_sem, qA, qB, qC, qD, qE, qF, qG, qH, h]
    repeat refine K ?_
    refine ⟨_, Sub.refl _, FinS_tup (by simp) ?_⟩; simp [-List.drop_one]
    simp [specSourceStep, h]
  simp only [go_sem, qA, qB, qC, qD, qE, qF, qG, qH, h, hw1]
  repeat refine K ?_
  refine CA [] (l1In_ok who 0 (s.ths.length - 1)) ?_
  try simp only [go_sem, qA, qB, qC, qD, qE, qF, qG, qH]
  repeat refine K ?_
  cases hw : within who 0 (s.ths.length - 1)
  · simp only [go_sem, qA, qB, qC, qD, qE, qF, qG, qH, hw]
    repeat refine K ?_
    refine CA [] (l4Copy_ok s hs) ?_
    try simp only [go_sem, qA, qB, qC, qD, qE, qF, qG, qH]
    repeat refine K ?_
    try simp only [go_sem, qA, qB, qC, qD, qE, qF, qG, qH, hw]
    repeat refine K ?_
    apply fin_tup (by simp)
    · exact Sub.refl _
    · simp [-List.drop_one, -gD, specSourceStep, h, sourceStep, sourceCode, hw] <;> (first | rfl | exact ⟨rfl, rfl⟩ | exact ⟨rfl, rfl, rfl⟩ | skip)
  have hw' := hw
  rw [within_iff] at hw'
  obtain ⟨i, rfl⟩ := Int.eq_ofNat_of_zero_le hw'.1
  have hi : i < s.ths.length := by omega
  have heq := specStep_eq p s i h hi
  simp only [go_sem, qA, qB, qC, qD, qE, qF, qG, qH, hw, threads_getD .bw s.ths i hi, Int.toNat_natCast]
  repeat refine K ?_
  by_cases hst : (s.ths.getD i default).st = 0
  case neg =>
    simp only [go_sem, qA, qB, qC, qD, qE, qF, qG, qH, hst]
    repeat refine K ?_
    refine CA [] (l4Copy_ok s hs) ?_
    try simp only [go_sem, qA, qB, qC, qD, qE, qF, qG, qH]
    repeat refine K ?_
    try simp only [go_sem, qA, qB, qC, qD, qE, qF, qG, qH, hst]
    repeat refine K ?_
    apply fin_tup (by simp)
    · exact Sub.refl _
    · simp [-List.drop_one, -gD, specSourceStep, h, ← heq, specStep, hst] <;> (first | rfl | exact ⟨rfl, rfl⟩ | exact ⟨rfl, rfl, rfl⟩ | skip)
  simp only [go_sem, qA, qB, qC, qD, qE, qF, qG, qH, hst]
  repeat refine K ?_
  refine ⟨?_, ?_⟩
  · refine DA [] (l4Copy_ok s hs) ?_
    try simp only [go_sem, qA, qB, qC, qD, qE, qF, qG, qH]
    repeat refine K ?_
    try simp only [go_sem, qA, qB, qC, qD, qE, qF, qG, qH]
    repeat refine K ?_
    refine ⟨?_, ?_⟩
    · refine DA [(0, 13), (1, 14), (2, 15)] (l4Step_ok p s i hp hs h hi (notesOk_len h)) ?_
      try simp only [go_sem, qA, qB, qC, qD, qE, qF, qG, qH]
      repeat refine K ?_
      try simp only [go_sem, qA, qB, qC, qD, qE, qF, qG, qH, srcF]
      repeat refine K ?_
      by_cases hk : (l4StepF p s i).2 = 0
      · try simp only [go_sem, qA, qB, qC, qD, qE, qF, qG, qH, hk]
        repeat refine K ?_
        apply fin_tup (by simp)
        · exact Sub.refl _
        · simp [-List.drop_one, -gD, specSourceStep, h, ← heq, specStep, hst, hk] <;> (first | rfl | exact ⟨rfl, rfl⟩ | exact ⟨rfl, rfl, rfl⟩ | skip)
      · try simp only [go_sem, qA, qB, qC, qD, qE, qF, qG, qH, hk]
        repeat refine K ?_
        refine CA [] (l4Copy_ok s hs) ?_
        try simp only [go_sem, qA, qB, qC, qD, qE, qF, qG, qH]
        repeat refine K ?_
        try simp only [go_sem, qA, qB, qC, qD, qE, qF, qG, qH, hk]
        repeat refine K ?_
        apply fin_tup (by simp)
        · exact Sub.refl _
        · simp [-List.drop_one, -gD, specSourceStep, h, ← heq, specStep, hst, hk] <;> (first | rfl | exact ⟨rfl, rfl⟩ | exact ⟨rfl, rfl, rfl⟩ | skip)
    · repeat refine K ?_
      refine DA [(0, 13), (1, 14), (2, 15)] (l4Step_ok p s i hp hs h hi (notesOk_len h)) ?_
      try simp only [go_sem, qA, qB, qC, qD, qE, qF, qG, qH]
      repeat refine K ?_
      try simp only [go_sem, qA, qB, qC, qD, qE, qF, qG, qH, srcF]
      repeat refine K ?_
      by_cases hk : (l4StepF p s i).2 = 0
      · try simp only [go_sem, qA, qB, qC, qD, qE, qF, qG, qH, hk]
        repeat refine K ?_
        apply fin_tup (by simp)
        · exact Sub.refl _
        · simp [-List.drop_one, -gD, specSourceStep, h, ← heq, specStep, hst, hk] <;> (first | rfl | exact ⟨rfl, rfl⟩ | exact ⟨rfl, rfl, rfl⟩ | skip)
      · try simp only [go_sem, qA, qB, qC, qD, qE, qF, qG, qH, hk]
        repeat refine K ?_
        refine CA [] (l4Copy_ok s hs) ?_
        try simp only [go_sem, qA, qB, qC, qD, qE, qF, qG, qH]
        repeat refine K ?_
        try simp only [go_sem, qA, qB, qC, qD, qE, qF, qG, qH, hk]
        repeat refine K ?_
        apply fin_tup (by simp)
        · exact Sub.refl _
        · simp [-List.drop_one, -gD, specSourceStep, h, ← heq, specStep, hst, hk] <;> (first | rfl | exact ⟨rfl, rfl⟩ | exact ⟨rfl, rfl, rfl⟩ | skip)
  · repeat refine K ?_
    refine DA [] (l4Copy_ok s hs) ?_
    try simp only [go_sem, qA, qB, qC, qD, qE, qF, qG, qH]
    repeat refine K ?_
    try simp only [go_sem, qA, qB, qC, qD, qE, qF, qG, qH]
    repeat refine K ?_
    refine DA [(0, 14), (1, 15), (2, 16)] (l4Step_ok p s i hp hs h hi (notesOk_len h)) ?_
    try simp only [go_sem, qA, qB, qC, qD, qE, qF, qG, qH]
    repeat refine K ?_
    try simp only [go_sem, qA, qB, qC, qD, qE, qF, qG, qH, srcF]
    repeat refine K ?_
    by_cases hk : (l4StepF p s i).2 = 0
    · try simp only [go_sem, qA, qB, qC, qD, qE, qF, qG, qH, hk]
      repeat refine K ?_
      apply fin_tup (by simp)
      · exact Sub.refl _
      · simp [-List.drop_one, -gD, specSourceStep, h, ← heq, specStep, hst, hk] <;> (first | rfl | exact ⟨rfl, rfl⟩ | exact ⟨rfl, rfl, rfl⟩ | skip)
    · try simp only [go_sem, qA, qB, qC, qD, qE, qF, qG, qH, hk]
      repeat refine K ?_
      refine CA [] (l4Copy_ok s hs) ?_
      try simp only [go_sem, qA, qB, qC, qD, qE, qF, qG, qH]
      repeat refine K ?_
      try simp only [go_sem, qA, qB, qC, qD, qE, qF, qG, qH, hk]
      repeat refine K ?_
      apply fin_tup (by simp)
      · exact Sub.refl _
      · simp [-List.drop_one, -gD, specSourceStep, h, ← heq, specStep, hst, hk] <;> (first | rfl | exact ⟨rfl, rfl⟩ | exact ⟨rfl, rfl, rfl⟩ | skip)


end Go.Sep
