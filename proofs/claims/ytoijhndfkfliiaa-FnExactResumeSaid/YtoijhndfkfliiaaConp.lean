/- Contracts of functions. -/
import Derived.Test.YtoijhndfkfliiaaCono
namespace Go.Sep
open Go.Proofs
set_option linter.unusedSimpArgs false
set_option linter.unusedVariables false
set_option maxRecDepth 100000
def m154 : MFn := ⟨117, [.cell 4 3 true, .t 5], .seq (xr [xo 2 (.box (.t 0)), xo 4 (.alloc [.nil, .nil, .nil]), xo 5 (.mv (.c (.bool false)))]) (.seq (xr [xo 18 (.load 2 true (.t 2)), xo 19 (.call 24 [false] [.t 18]), xv 17 19, xo 20 (.ext (.t 17) 0), xo 21 (.ext (.t 17) 1), xo 6 (.alloc [.nil, .nil, .nil]), ⟨none, .store 3 (.t 6) (.t 20), none⟩, xv 7 21]) (.seq (.seq (xr [xv 22 7, xo 23 (.un .«not» (.t 22))]) (.cond 23 (.seq (xr [xo 24 (.build [.nil, .nil, .nil] []), ⟨none, .store 3 (.t 4) (.t 24), none⟩, xo 5 (.mv (.c (.bool false)))]) (.ret)) (.skip))) (.seq (xr [xv 25 1, xo 26 (.build [.nil, .int .i64 0, .bool false] [(0, 1, .t 25)]), xo 27 (.box (.t 26)), xv 8 27]) (.seq (.seq (xr [xo 28 (.fad 0 (.t 6)), xo 29 (.load 1 false (.t 28)), xo 30 (.len (.t 29)), xo 31 (.mv (xi 0))]) (.blk 0 (.loop (.seq (xr [xo 32 (.bin .lss (.t 31) (.t 30))]) (.seq (.cond 32 (.skip) (.exit 0)) (.seq (.blk 1 (.seq (xr [xv 33 31, xv 9 33]) (.seq (xr [xo 34 (.fad 0 (.t 6)), xo 35 (.load 1 false (.t 34)), xv 36 9, xo 37 (.iad 3 (.t 35) (.t 36)), xv 10 37]) (.seq (xr [xv 38 10, xv 39 8, xo 40 (.call 195 [true] [.t 39]), xo 41 (.nilck (.t 38)), xo 42 (.fad 0 (.t 41)), ⟨none, .store 1 (.t 42) (.t 40), none⟩]) (.seq (xr [xv 43 10, xv 44 8, xo 45 (.call 195 [true] [.t 44]), xo 46 (.nilck (.t 43)), xo 47 (.fad 2 (.t 46)), ⟨none, .store 1 (.t 47) (.t 45), none⟩]) (xr [xv 48 10, xv 49 8, xo 50 (.call 196 [true, false] [.t 49, xi 4]), xo 51 (.nilck (.t 48)), xo 52 (.fad 1 (.t 51)), ⟨none, .store 1 (.t 52) (.t 50), none⟩])))))) (xr [xo 53 (.bin .add (.t 31) (xi 1)), xv 31 53]))))))) (.seq (.seq (xr [xo 54 (.fad 1 (.t 6)), xo 55 (.load 1 false (.t 54)), xo 56 (.len (.t 55)), xo 57 (.mv (xi 0))]) (.blk 2 (.loop (.seq (xr [xo 58 (.bin .lss (.t 57) (.t 56))]) (.seq (.cond 58 (.skip) (.exit 2)) (.seq (.blk 3 (.seq (xr [xv 59 57, xv 11 59]) (.seq (xr [xo 60 (.fad 1 (.t 6)), xo 61 (.load 1 false (.t 60)), xv 62 11, xo 63 (.iad 3 (.t 61) (.t 62)), xv 12 63]) (.seq (xr [xv 64 8, xo 65 (.call 197 [true, false] [.t 64, xi 4]), xv 13 65]) (.seq (xr [xv 66 12, xv 67 8, xv 68 13, xo 69 (.call 196 [true, false] [.t 67, .t 68]), xo 70 (.nilck (.t 66)), xo 71 (.fad 1 (.t 70)), ⟨none, .store 1 (.t 71) (.t 69), none⟩]) (.seq (xr [xv 72 8, xo 73 (.call 197 [true, false] [.t 72, xi 1]), xv 14 73]) (xr [xv 74 12, xv 75 14, xo 76 (.bin .eql (.t 75) (xi 1)), xo 77 (.nilck (.t 74)), xo 78 (.fad 2 (.t 77)), ⟨none, .store 1 (.t 78) (.t 76), none⟩]))))))) (xr [xo 79 (.bin .add (.t 57) (xi 1)), xv 57 79]))))))) (.seq (xr [xv 80 8, xo 81 (.call 197 [true, false] [.t 80, xi 4000]), xv 15 81]) (.seq (.seq (xr [xv 82 15, xo 83 (.mv (xi 0))]) (.blk 4 (.loop (.seq (xr [xo 84 (.bin .lss (.t 83) (.t 82))]) (.seq (.cond 84 (.skip) (.exit 4)) (.seq (.blk 5 (.seq (xr [xo 85 (.build [xz, xz] []), xo 16 (.alloc [xz, xz]), ⟨none, .store 2 (.t 16) (.t 85), none⟩]) (.seq (xr [xv 86 8, xo 87 (.call 195 [true] [.t 86]), xo 88 (.fad 0 (.t 16)), ⟨none, .store 1 (.t 88) (.t 87), none⟩]) (.seq (xr [xv 89 8, xo 90 (.call 195 [true] [.t 89]), xo 91 (.fad 1 (.t 16)), ⟨none, .store 1 (.t 91) (.t 90), none⟩]) (xr [xo 92 (.fad 2 (.t 6)), xo 93 (.load 1 false (.t 92)), xo 94 (.load 2 true (.t 16)), xo 95 (.mkSl [xz, xz] 1 [(0, .t 94)]), xo 96 (.app 2 16 (.t 93) (.t 95)), xo 97 (.fad 2 (.t 6)), ⟨none, .store 1 (.t 97) (.t 96), none⟩]))))) (xr [xo 98 (.bin .add (.t 83) (xi 1)), xv 83 98]))))))) (.seq (.seq (xr [xv 99 8, xo 100 (.nilck (.t 99)), xo 101 (.fad 2 (.t 100)), xo 102 (.load 1 false (.t 101)), xv 103 102, xg 104 (.load 2 true (.t 2)) 103 false, xg 105 (.load 3 true (.t 6)) 103 false, xg 106 (.call 50 [false, false] [.t 104, .t 105]) 103 false, xg 107 (.un .«not» (.t 106)) 103 false, xo 108 (.pick (.t 103) (.c (.bool true)) (.t 107)), xv 109 108, xg 110 (.call 198 [false] [.t 6]) 109 false, xg 111 (.mv (.t 1)) 109 false, xg 112 (.call 199 [false, false] [.t 110, .t 111]) 109 false, xg 113 (.un .«not» (.t 112)) 109 false, xo 114 (.pick (.t 109) (.c (.bool true)) (.t 113))]) (.cond 114 (.seq (xr [xo 115 (.build [.nil, .nil, .nil] []), ⟨none, .store 3 (.t 4) (.t 115), none⟩, xo 5 (.mv (.c (.bool false)))]) (.ret)) (.skip))) (.seq (xr [xo 116 (.load 3 true (.t 6)), ⟨none, .store 3 (.t 4) (.t 116), none⟩, xo 5 (.mv (.c (.bool true)))]) (.ret))))))))))⟩
theorem c154 : chkC Try.prog num Try.f19.ntmps m154.body ((Try.f19.body).getD .skip) = true := by kernel_rfl
open Nat renaming reduceAdd → qA, reduceMul → qB, reduceEqDiff → qC, reduceBEq → qD
open Int renaming reduceToNat → qE, reduceEq → qF, reduceLT → qG, reduceLE → qH
open List renaming getD_eq_getElem?_getD → gD

attribute [local simp] rdC rdS
theorem getD_fresh {α : Type} (l : List α) (x d : α) (n i : Nat) (h : l.length = i) (hi : i < n) : (l ++ List.replicate (n - i) x).getD i d = x := by
  rw [List.getD_eq_getElem?_getD, List.getElem?_append_right (by omega), h, Nat.sub_self]
  have : n - i = (n - i - 1) + 1 := by omega
  rw [this, List.replicate_succ]
  rfl
theorem set_fresh {α : Type} (l : List α) (x y : α) (n i : Nat) (h : l.length = i) (hi : i < n) : (l ++ List.replicate (n - i) x).set i y = (l ++ [y]) ++ List.replicate (n - (i + 1)) x := by
  have : n - i = (n - (i + 1)) + 1 := by omega
  rw [List.set_append_right _ _ (by omega), h, Nat.sub_self, this, List.replicate_succ, List.set_cons_zero, List.append_assoc]
  rfl

theorem getD_mix {α : Type} (l m : List α) (d : α) (i : Nat) (h : l.length = i) : (l ++ m.drop i).getD i d = m.getD i d := by
  rw [List.getD_eq_getElem?_getD, List.getElem?_append_right (by omega), h]
  simp [List.getD_eq_getElem?_getD]
theorem set_mix {α : Type} (l m : List α) (y : α) (i : Nat) (h : l.length = i) (hi : i < m.length) : (l ++ m.drop i).set i y = (l ++ [y]) ++ m.drop (i + 1) := by
  rw [List.set_append_right _ _ (by omega), h, Nat.sub_self, List.drop_eq_getElem_cons hi, List.set_cons_zero, List.append_assoc]
  rfl
theorem notes_snoc (o : List Note) (a c : Int) : notes o ++ [[.int .i64 a, .int .i64 c]] = notes (o ++ [⟨a, c⟩]) := by simp [notes, noteC]
theorem u8_in (n : Int) : isByte (IntKind.u8.wrap n) := by
  unfold IntKind.wrap isByte
  have h1 : IntKind.u8.bits = 8 := rfl
  have h2 : IntKind.u8.signed = false := rfl
  simp only [h1, h2]
  simp
  omega
theorem putInt_in (n : Int) : ∀ x ∈ putInt n, isByte x := by
  intro x hx
  simp only [putInt, List.mem_cons, List.not_mem_nil, or_false] at hx
  rcases hx with rfl | rfl | rfl | rfl | rfl | rfl | rfl | rfl | rfl
  · split <;> (unfold isByte; omega)
  all_goals exact u8_in _
theorem putAll_in (l : List Int) : ∀ x ∈ putAll l, isByte x := by
  intro x hx
  unfold putAll at hx
  rw [List.mem_flatMap] at hx
  obtain ⟨n, _, h⟩ := hx
  exact putInt_in n x h
theorem srcBytes_in (s : Source) : ∀ x ∈ srcBytes s, isByte x := by
  intro x hx
  simp only [srcBytes, List.mem_append, List.mem_flatMap] at hx
  rcases hx with ⟨t, _, h⟩ | ⟨c, _, h⟩ | h | ⟨n, _, h⟩
  · simp only [thBytes, List.mem_append] at h
    rcases h with h | h <;> exact putAll_in _ x h
  · simp only [chBytes, List.mem_append] at h
    rcases h with h | h | h <;> exact putAll_in _ x h
  · exact putAll_in _ x h
  · exact putAll_in _ x h
def chan0 (c : Int) : Chan := ⟨c, [], false⟩

set_option maxHeartbeats 8000000 in
theorem implSourceOf_fz (p : Prog) (b : List Int) (hp : SmallP p) (hb : b.length < 2 ^ 40) (hby : ∀ x ∈ b, isByte x) : CallOk Try.prog num 154 [.agg (progC .bw p), .sl .fz 1 (bys b)] [] (.tup [.agg (sourceC .own (implOf p b).1), .bool (implOf p b).2]) := by
  have hb2 : b.length < 2 ^ 62 := by omega
  obtain ⟨hp1, hp2, hp3⟩ := hp
  refine enter (m := m154) (f := 154) (fn := Try.f19) Try.func19 (by kernel_rfl) rfl c154 rfl (by simp [Try.f19]) (by simp [bnds, bnd, nf_sl, nf_int, nf_bool, nf_str, ints_bnd]) (fun _ _ h => by simp [preH, look] at h) ?_
  unfold m154
  simp only [go_sem, qA, qB, qC, qD, qE, qF, qG, qH]
  repeat refine K ?_
  refine CA [] (implSourceNew_ok p hp1 hp2 (fun x hx => by have := hp3 x hx; omega)) ?_
  try simp only [go_sem, qA, qB, qC, qD, qE, qF, qG, qH]
  repeat refine K ?_
  cases hok : progOk p
  · have hn : (sourceNew p).2 = false := by simp [sourceNew, hok]
    try simp only [go_sem, qA, qB, qC, qD, qE, qF, qG, qH, hn]
    repeat refine K ?_
    apply fin_tup (by simp)
    · exact Sub.refl _
    · simp [-List.drop_one, -gD, implOf, hok, threads_nil, chans_nil, notes_nil] <;> (first | rfl | exact ⟨rfl, rfl⟩ | exact ⟨rfl, rfl, rfl⟩ | skip)
  have hn : sourceNew p = (⟨List.replicate p.bods.length thread0, p.caps.map chan0, []⟩, true) := by unfold sourceNew; rw [if_pos hok]; rfl
  rw [hn]
  try simp only [go_sem, qA, qB, qC, qD, qE, qF, qG, qH]
  repeat refine K ?_
  have r0 : Rd.In b ⟨0, false⟩ := ⟨by simp, by simp⟩
  refine loop_intro (ι := Nat) (fun i => .mk [(1, .sl .fz 1 (bys b)), (2, .ptr 10 0 0), (4, .ptr 11 0 0), (6, .ptr 15 0 0), (8, .ptr 16 0 0), (30, .int .i64 p.bods.length), (31, .int .i64 i)] [(10, 2, [progC .bw p]), (11, 3, [[.nil, .nil, .nil]]), (15, 3, [sourceC .own ⟨(rdSeq (fun _ => rdThread b) i ⟨0, false⟩).1 ++ List.replicate (p.bods.length - i) thread0, p.caps.map chan0, []⟩]), (16, 3, [rdC b (rdSeq (fun _ => rdThread b) i ⟨0, false⟩).2])] 17) (fun i => i ≤ p.bods.length) (fun i => p.bods.length - i) 0 (by simp) ?_ ?_
  · refine Sub.trans (Sub.fold1 15 0 12 rfl (by simp [-gD] <;> omega) rfl (by decide) (by decide) rfl) ?_
    simp only [fS, qA, qC]
    refine Sub.trans (Sub.fold1 15 1 13 rfl (by simp [-gD] <;> omega) rfl (by decide) (by decide) rfl) ?_
    simp only [fS, qA, qC]
    refine Sub.trans (Sub.fold1 15 2 14 rfl (by simp [-gD] <;> omega) rfl (by decide) (by decide) rfl) ?_
    simp only [fS, qA, qC]
    refine Sub.shape [] id (by omega) ?_ ?_ ?_ ?_ <;> simp [ints_rep]
    all_goals simp [rdSeq]
  · intro i hi
    have g1 := rdSeq_in (b := b) (f := fun _ => rdThread b) (fun _ _ h => rdThread_in h) r0 i
    have hl := rdSeq_length (fun _ => rdThread b) ⟨0, false⟩ i
    have hnext : rdSeq (fun _ => rdThread b) (i + 1) ⟨0, false⟩ = ((rdSeq (fun _ => rdThread b) i ⟨0, false⟩).1 ++ [(rdThread b (rdSeq (fun _ => rdThread b) i ⟨0, false⟩).2).1], (rdThread b (rdSeq (fun _ => rdThread b) i ⟨0, false⟩).2).2) := rfl
    have hfin : i = p.bods.length → rdSeq (fun _ => rdThread b) i ⟨0, false⟩ = parseT p b := fun h => by rw [h]; rfl
    generalize rdSeq (fun _ => rdThread b) i ⟨0, false⟩ = st at g1 hl hnext hfin
    obtain ⟨l, r⟩ := st
    simp only at g1 hl hnext
    simp only [go_sem, qA, qB, qC, qD, qE, qF, qG, qH]
    refine branch_intro (fun hc => ?_) (fun hc => ?_)
    · simp only [decide_eq_true_eq] at hc
      have hi' : i < p.bods.length := by omega
      have hL : (l ++ List.replicate (p.bods.length - i) thread0).length = p.bods.length := by simp; omega
      have gb : (threads .own (l ++ List.replicate (p.bods.length - i) thread0)).getD i [] = [.int .i64 0, .sl .own 1 (ints [0, 0, 0, 0]), .int .i64 0] := by
        rw [threads_getD .own _ i (by rw [hL]; exact hi'), getD_fresh l thread0 default _ i hl hi']
        rfl
      have gi : ∀ a0 a1 a2, (threads .own ((l ++ List.replicate (p.bods.length - i) thread0).set i ⟨a0, a1, a2⟩)).getD i [] = [.int .i64 a0, .sl .own 1 (ints a1), .int .i64 a2] := fun a0 a1 a2 => by
        rw [threads_getD .own _ i (by rw [List.length_set, hL]; exact hi'), getD_set_self _ _ _ _ (by rw [hL]; exact hi')]
      have gv : ∀ x r, ((threads .own ((l ++ List.replicate (p.bods.length - i) thread0).set i x)).set i r).getD i [] = r := fun x r => getD_set_self _ _ _ _ (by rw [threads_length, List.length_set, hL]; exact hi')
      simp only [go_sem, qA, qB, qC, qD, qE, qF, qG, qH, gb, gi, gv, hL, List.length_set]
      repeat refine K ?_
      refine CA [(0, 16)] (reader_number_ok b r g1 hb2) ?_
      try simp only [go_sem, qA, qB, qC, qD, qE, qF, qG, qH]
      repeat refine K ?_
      try simp only [go_sem, qA, qB, qC, qD, qE, qF, qG, qH, gb, gi, gv, hL, List.length_set]
      repeat refine K ?_
      refine CA [(0, 16)] (reader_number_ok b (rdNum b r).2 (rdNum_in g1) hb2) ?_
      try simp only [go_sem, qA, qB, qC, qD, qE, qF, qG, qH]
      repeat refine K ?_
      try simp only [go_sem, qA, qB, qC, qD, qE, qF, qG, qH, gb, gi, gv, hL, List.length_set]
      repeat refine K ?_
      refine CA [(0, 16)] (reader_numbers_ok b (rdNum b (rdNum b r).2).2 4 (rdNum_in (rdNum_in g1)) hb2 (by omega)) ?_
      try simp only [go_sem, qA, qB, qC, qD, qE, qF, qG, qH]
      repeat refine K ?_
      try simp only [go_sem, qA, qB, qC, qD, qE, qF, qG, qH, gb, gi, gv, hL, List.length_set, wrap_succ (i := i) (by omega)]
      repeat refine K ?_
      refine back_intro (i + 1) ?_ hi' (by omega)
      simp only [hnext, rdThread]
      refine Sub.trans (Sub.foldAt 17 1 18 rfl (by simp [-gD] <;> omega) rfl (by decide) (by decide) rfl (by simp <;> omega)) ?_
      simp only [fS, qA, qC, threads_set, List.set_set]
      rw [set_fresh l thread0 _ _ i hl hi']
      have hL2 : l.length + 1 + (p.bods.length - (i + 1)) = p.bods.length := by omega
      refine Sub.trans (Sub.fold1 15 0 17 rfl (by simp [-gD] <;> omega) rfl (by decide) (by decide) rfl) ?_
      simp only [fS, qA, qC, hL2]
      refine Sub.shape [] id (by omega) ?_ ?_ ?_ ?_ <;> simp [ints_rep]
    · simp only [decide_eq_false_iff_not] at hc
      have hie : i = p.bods.length := by omega
      have hf := hfin hie
      subst hie
      have hlr : l ++ List.replicate (p.bods.length - p.bods.length) thread0 = l := by simp
      rw [hlr]
      simp only [go_sem, qA, qB, qC, qD, qE, qF, qG, qH]
      repeat refine K ?_
      have hpc : (l, r) = parseT p b := hf
      have hM : (p.caps.map chan0).length = p.caps.length := by simp
      refine loop_intro (ι := Nat) (fun i => .mk [(1, .sl .fz 1 (bys b)), (2, .ptr 10 0 0), (4, .ptr 11 0 0), (6, .ptr 15 0 0), (8, .ptr 16 0 0), (56, .int .i64 p.caps.length), (57, .int .i64 i)] [(10, 2, [progC .bw p]), (11, 3, [[.nil, .nil, .nil]]), (15, 3, [sourceC .own ⟨l, (rdSeq (fun i => rdChan b (p.caps.getD i 0)) i r).1 ++ (p.caps.map chan0).drop i, []⟩]), (16, 3, [rdC b (rdSeq (fun i => rdChan b (p.caps.getD i 0)) i r).2])] 17) (fun i => i ≤ p.caps.length) (fun i => p.caps.length - i) 0 (by simp) ?_ ?_
      · refine Sub.trans (Sub.fold1 15 1 17 rfl (by simp [-gD] <;> omega) rfl (by decide) (by decide) rfl) ?_
        simp only [fS, qA, qC, hM]
        refine Sub.shape [] id (by omega) ?_ ?_ ?_ ?_ <;> simp [ints_rep]
        all_goals simp [rdSeq]
      · clear hc
        intro i hi
        have h1 := rdSeq_in (b := b) (f := fun i => rdChan b (p.caps.getD i 0)) (fun _ _ h => rdChan_in h) g1 i
        have h2 := rdSeq_length (fun i => rdChan b (p.caps.getD i 0)) r i
        have hnext : rdSeq (fun i => rdChan b (p.caps.getD i 0)) (i + 1) r = ((rdSeq (fun i => rdChan b (p.caps.getD i 0)) i r).1 ++ [(rdChan b (p.caps.getD i 0) (rdSeq (fun i => rdChan b (p.caps.getD i 0)) i r).2).1], (rdChan b (p.caps.getD i 0) (rdSeq (fun i => rdChan b (p.caps.getD i 0)) i r).2).2) := rfl
        have hfin : i = p.caps.length → rdSeq (fun i => rdChan b (p.caps.getD i 0)) i r = parseC p b := fun h => by rw [h]; unfold parseC; rw [← hpc]
        generalize rdSeq (fun i => rdChan b (p.caps.getD i 0)) i r = st at h1 h2 hnext hfin
        obtain ⟨m, q⟩ := st
        simp only at h1 h2 hnext
        simp only [go_sem, qA, qB, qC, qD, qE, qF, qG, qH]
        have hL : (m ++ (p.caps.map chan0).drop i).length = p.caps.length := by simp; omega
        refine branch_intro (fun hc => ?_) (fun hc => ?_)
        · have hi' : i < p.caps.length := by simp at hc; omega
          have gb : (chans .own (m ++ (p.caps.map chan0).drop i)).getD i [] = [.int .i64 (p.caps.getD i 0), .sl .own 1 (ints []), .bool false] := by
            rw [chans_getD .own _ i (by rw [hL]; exact hi'), getD_mix m _ default i h2]
            have : (p.caps.map chan0).getD i default = chan0 (p.caps.getD i 0) := by simp [List.getD_eq_getElem?_getD, hi']
            rw [this]
            rfl
          have gi : ∀ a0 a1 a2, (chans .own ((m ++ (p.caps.map chan0).drop i).set i ⟨a0, a1, a2⟩)).getD i [] = [.int .i64 a0, .sl .own 1 (ints a1), .bool a2] := fun a0 a1 a2 => by
            rw [chans_getD .own _ i (by rw [List.length_set, hL]; exact hi'), getD_set_self _ _ _ _ (by rw [hL]; exact hi')]
          have gv : ∀ r, ((chans .own (m ++ (p.caps.map chan0).drop i)).set i r).getD i [] = r := fun r => getD_set_self _ _ _ _ (by rw [chans_length, hL]; exact hi')
          simp only [go_sem, qA, qB, qC, qD, qE, qF, qG, qH, gb, gi, gv, hL, List.length_set]
          repeat refine K ?_
          refine CA [(0, 16)] (reader_count_ok b q 4 h1 hb2) ?_
          try simp only [go_sem, qA, qB, qC, qD, qE, qF, qG, qH]
          repeat refine K ?_
          have k1 := rdCount_in (most := 4) h1
          have k2 := rdCount_le (b := b) (r := q) (most := 4) (by omega)
          have hch : rdChan b (p.caps.getD i 0) q = (⟨p.caps.getD i 0, (rdMany b (rdCount b q 4).1.toNat (rdCount b q 4).2).1, decide ((rdCount b (rdMany b (rdCount b q 4).1.toNat (rdCount b q 4).2).2 1).1 = 1)⟩, (rdCount b (rdMany b (rdCount b q 4).1.toNat (rdCount b q 4).2).2 1).2) := rfl
          rw [hch] at hnext
          generalize rdCount b q 4 = c at k1 k2 hnext
          obtain ⟨n, c⟩ := c
          simp only at k1 k2 hnext
          obtain ⟨n, rfl⟩ := Int.eq_ofNat_of_zero_le k2.1
          simp only [Int.toNat_natCast] at hnext
          try simp only [go_sem, qA, qB, qC, qD, qE, qF, qG, qH, gb, gi, gv, hL, List.length_set]
          repeat refine K ?_
          refine CA [(0, 16)] (reader_numbers_ok b c n k1 hb2 (by omega)) ?_
          try simp only [go_sem, qA, qB, qC, qD, qE, qF, qG, qH]
          repeat refine K ?_
          try simp only [go_sem, qA, qB, qC, qD, qE, qF, qG, qH, gb, gi, gv, hL, List.length_set]
          repeat refine K ?_
          refine CA [(0, 16)] (reader_count_ok b (rdMany b n c).2 1 (rdMany_in k1 n).1 hb2) ?_
          try simp only [go_sem, qA, qB, qC, qD, qE, qF, qG, qH]
          repeat refine K ?_
          try simp only [go_sem, qA, qB, qC, qD, qE, qF, qG, qH, gb, gi, gv, hL, List.length_set, wrap_succ (i := i) (by omega)]
          repeat refine K ?_
          refine back_intro (i + 1) ?_ hi' (by omega)
          rw [hnext]
          have hL2 : m.length + 1 + ((p.caps.map chan0).drop (i + 1)).length = p.caps.length := by simp; omega
          refine Sub.trans (Sub.foldAt 17 1 18 rfl (by simp [-gD] <;> omega) rfl (by decide) (by decide) rfl (by simp <;> omega)) ?_
          simp only [fS, qA, qC, chans_set, set_mix m _ _ i h2 (by rw [hM]; exact hi')]
          refine Sub.trans (Sub.fold1 15 1 17 rfl (by simp [-gD] <;> omega) rfl (by decide) (by decide) rfl) ?_
          simp only [fS, qA, qC, hL2]
          refine Sub.shape [] id (by omega) ?_ ?_ ?_ ?_ <;> simp [ints_rep]
        · have hie : i = p.caps.length := by simp at hc; omega
          have hf := hfin hie
          subst hie
          have hlr : m ++ (p.caps.map chan0).drop p.caps.length = m := by simp
          rw [hlr]
          simp only [go_sem, qA, qB, qC, qD, qE, qF, qG, qH]
          repeat refine K ?_
          refine CA [(0, 16)] (reader_count_ok b q 4000 h1 hb2) ?_
          try simp only [go_sem, qA, qB, qC, qD, qE, qF, qG, qH]
          repeat refine K ?_
          have k1 := rdCount_in (most := 4000) h1
          have k2 := rdCount_le (b := b) (r := q) (most := 4000) (by omega)
          have hpn : parseN p b = rdSeq (fun _ => rdNote b) (rdCount b q 4000).1.toNat (rdCount b q 4000).2 := by unfold parseN; rw [← hf]
          generalize rdCount b q 4000 = c at k1 k2 hpn
          obtain ⟨n, c⟩ := c
          simp only at k1 k2 hpn
          obtain ⟨n, rfl⟩ := Int.eq_ofNat_of_zero_le k2.1
          simp only [Int.toNat_natCast] at hpn
          try simp only [go_sem, qA, qB, qC, qD, qE, qF, qG, qH]
          repeat refine K ?_
          refine loop_intro (ι := Nat) (fun i => .mk [(1, .sl .fz 1 (bys b)), (2, .ptr 10 0 0), (4, .ptr 11 0 0), (6, .ptr 15 0 0), (8, .ptr 16 0 0), (82, .int .i64 n), (83, .int .i64 i)] [(10, 2, [progC .bw p]), (11, 3, [[.nil, .nil, .nil]]), (15, 3, [sourceC .own ⟨l, m, (rdSeq (fun _ => rdNote b) i c).1⟩]), (16, 3, [rdC b (rdSeq (fun _ => rdNote b) i c).2])] 17) (fun i => i ≤ n) (fun i => n - i) 0 (by simp) ?_ ?_
          · refine Sub.shape [] id (by omega) ?_ ?_ ?_ ?_ <;> (try simp [ints_rep, rdSeq])
          · clear hc
            intro i hi
            have u1 := rdSeq_in (b := b) (f := fun _ => rdNote b) (fun _ _ h => rdNote_in h) k1 i
            have u2 := rdSeq_length (fun _ => rdNote b) c i
            have hnext3 : rdSeq (fun _ => rdNote b) (i + 1) c = ((rdSeq (fun _ => rdNote b) i c).1 ++ [(rdNote b (rdSeq (fun _ => rdNote b) i c).2).1], (rdNote b (rdSeq (fun _ => rdNote b) i c).2).2) := rfl
            have hfin3 : i = n → rdSeq (fun _ => rdNote b) i c = parseN p b := fun h => by rw [h, hpn]
            generalize rdSeq (fun _ => rdNote b) i c = st at u1 u2 hnext3 hfin3
            obtain ⟨o, t⟩ := st
            simp only at u1 u2 hnext3
            simp only [go_sem, qA, qB, qC, qD, qE, qF, qG, qH]
            refine branch_intro (fun hc => ?_) (fun hc => ?_)
            · have hi' : i < n := by simp at hc; omega
              simp only [go_sem, qA, qB, qC, qD, qE, qF, qG, qH, u2]
              repeat refine K ?_
              refine CA [(0, 16)] (reader_number_ok b t u1 hb2) ?_
              try simp only [go_sem, qA, qB, qC, qD, qE, qF, qG, qH]
              repeat refine K ?_
              try simp only [go_sem, qA, qB, qC, qD, qE, qF, qG, qH, u2]
              repeat refine K ?_
              refine CA [(0, 16)] (reader_number_ok b (rdNum b t).2 (rdNum_in u1) hb2) ?_
              try simp only [go_sem, qA, qB, qC, qD, qE, qF, qG, qH]
              repeat refine K ?_
              try simp only [go_sem, qA, qB, qC, qD, qE, qF, qG, qH, u2, wrap_succ (i := i) (by omega)]
              repeat refine K ?_
              refine back_intro (i + 1) ?_ hi' (by omega)
              simp only [hnext3, rdNote]
              refine Sub.trans (Sub.fold1 15 2 20 rfl (by simp [-gD] <;> omega) rfl (by decide) (by decide) rfl) ?_
              simp only [fS, qA, qC, notes_snoc, u2]
              refine Sub.shape [] id (by omega) ?_ ?_ ?_ ?_ <;> simp [ints_rep]
            · have hie : i = n := by simp at hc; omega
              have hf3 := hfin3 hie
              have hip : implParse p b = (⟨l, m, o⟩, t) := by unfold implParse; rw [← hpc, ← hf, ← hf3]
              have hol : o.length ≤ 4000 := by omega
              cases hbad : t.bad
              · have hrd : rdC b t = [.sl .fz 1 (bys b), .int .i64 t.a, .bool false] := by unfold rdC; rw [hbad]
                simp only [go_sem, qA, qB, qC, qD, qE, qF, qG, qH, hrd]
                repeat refine K ?_
                have hlr : ∀ t ∈ l, t.regs.length = 4 := fun x hx => by
                  have e : l = (parseT p b).1 := by rw [← hpc]
                  rw [e] at hx
                  exact rdSeq_all (b := b) (f := fun _ => rdThread b) (Q := fun (t : Thread) => t.regs.length = 4) (fun _ _ h => rdThread_in h) (fun _ r h => (rdMany_in (rdNum_in (rdNum_in h)) 4).2) r0 _ x hx
                have hlc : ∀ c ∈ m, c.list.length ≤ 4 := fun x hx => by
                  have e : m = (parseC p b).1 := by rw [← hf]
                  rw [e] at hx
                  have hr : (parseT p b).2.In b := by rw [← hpc]; exact g1
                  refine rdSeq_all (b := b) (f := fun i => rdChan b (p.caps.getD i 0)) (Q := fun (c : Chan) => c.list.length ≤ 4) (fun _ _ h => rdChan_in h) (fun _ r h => ?_) hr _ x hx
                  have := rdCount_le (b := b) (r := r) (most := 4) (by omega)
                  show (rdMany b (rdCount b r 4).1.toNat (rdCount b r 4).2).1.length ≤ 4
                  rw [(rdMany_in (rdCount_in h) _).2]
                  omega
                have hsm : Small ⟨l, m, o⟩ := ⟨by simp only; omega, by simp only; omega, by simp only; omega, fun t ht => by have := hlr t ht; omega, fun t ht => by have := hlc t ht; omega⟩
                refine CA [] (implSourceOk_ok p ⟨l, m, o⟩ ⟨hp1, hp2, hp3⟩ hsm) ?_
                try simp only [go_sem, qA, qB, qC, qD, qE, qF, qG, qH]
                repeat refine K ?_
                cases hso : sourceOk p ⟨l, m, o⟩
                · try simp only [go_sem, qA, qB, qC, qD, qE, qF, qG, qH, hso]
                  repeat refine K ?_
                  apply fin_tup (by simp)
                  · exact Sub.refl _
                  · simp [-List.drop_one, -gD, implOf, hip, hbad, hso, threads_nil, chans_nil, notes_nil] <;> (first | rfl | exact ⟨rfl, rfl⟩ | exact ⟨rfl, rfl, rfl⟩ | skip)
                try simp only [go_sem, qA, qB, qC, qD, qE, qF, qG, qH, hso]
                repeat refine K ?_
                have hsz := (srcSz_ok hso).mono (show 5000 ≤ 2097152 by decide)
                have hsb := srcBytes_in ⟨l, m, o⟩
                apply calls_mk
                · refine Sub.trans (Sub.fold1 15 0 17 rfl (by simp [-gD] <;> omega) rfl (by decide) (by decide) rfl) ?_
                  simp only [fS, qA, qC]
                  refine Sub.trans (Sub.fold1 15 1 18 rfl (by simp [-gD] <;> omega) rfl (by decide) (by decide) rfl) ?_
                  simp only [fS, qA, qC]
                  refine Sub.trans (Sub.fold1 15 2 19 rfl (by simp [-gD] <;> omega) rfl (by decide) (by decide) rfl) ?_
                  simp only [fS, qA, qC]
                  exact Sub.refl _
                refine CA [] (implSourceBytes_ok ⟨l, m, o⟩ hsz) ?_
                try simp only [go_sem, qA, qB, qC, qD, qE, qF, qG, qH]
                repeat refine K ?_
                try simp only [go_sem, qA, qB, qC, qD, qE, qF, qG, qH]
                repeat refine K ?_
                refine CA [] (bytesEqual_ok (srcBytes ⟨l, m, o⟩) b hsb hby) ?_
                try simp only [go_sem, qA, qB, qC, qD, qE, qF, qG, qH]
                repeat refine K ?_
                by_cases he : srcBytes ⟨l, m, o⟩ = b
                · try simp only [go_sem, qA, qB, qC, qD, qE, qF, qG, qH, he]
                  repeat refine K ?_
                  apply fin_tup (by simp)
                  · exact Sub.refl _
                  · simp [-List.drop_one, -gD, implOf, hip, hbad, hso, he, hok] <;> (first | rfl | exact ⟨rfl, rfl⟩ | exact ⟨rfl, rfl, rfl⟩ | skip)
                · try simp only [go_sem, qA, qB, qC, qD, qE, qF, qG, qH, he]
                  repeat refine K ?_
                  apply fin_tup (by simp)
                  · exact Sub.refl _
                  · simp [-List.drop_one, -gD, implOf, hip, hbad, hso, he, hok, threads_nil, chans_nil, notes_nil] <;> (first | rfl | exact ⟨rfl, rfl⟩ | exact ⟨rfl, rfl, rfl⟩ | skip)
              · have hrd : rdC b t = [.sl .fz 1 (bys b), .int .i64 t.a, .bool true] := by unfold rdC; rw [hbad]
                simp only [go_sem, qA, qB, qC, qD, qE, qF, qG, qH, hrd]
                repeat refine K ?_
                apply fin_tup (by simp)
                · exact Sub.refl _
                · simp [-List.drop_one, -gD, implOf, hip, hbad, threads_nil, chans_nil, notes_nil] <;> (first | rfl | exact ⟨rfl, rfl⟩ | exact ⟨rfl, rfl, rfl⟩ | skip)


end Go.Sep
