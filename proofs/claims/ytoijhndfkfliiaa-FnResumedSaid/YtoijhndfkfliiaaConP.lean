/- Contracts of functions. -/
import Derived.Test.YtoijhndfkfliiaaCono
namespace Go.Sep
open Go.Proofs
set_option linter.unusedSimpArgs false
set_option linter.unusedVariables false
set_option maxRecDepth 100000
def m153 : MFn := ⟨126, [.cell 4 3 true, .t 5], .seq (xr [xo 2 (.box (.t 0)), xo 4 (.alloc [.nil, .nil, .nil]), xo 5 (.mv (.c (.bool false)))]) (.seq (xr [xo 17 (.load 2 true (.t 2)), xo 18 (.call 45 [false] [.t 17]), xv 16 18, xo 19 (.ext (.t 16) 0), xo 20 (.ext (.t 16) 1), xo 6 (.alloc [.nil, .nil, .nil]), ⟨none, .store 3 (.t 6) (.t 19), none⟩, xv 7 20]) (.seq (xr [xv 21 1, xv 22 7, xo 23 (.build [.nil, .int .i64 0, .bool false] [(0, 1, .t 21), (2, 1, .t 22)]), xo 24 (.box (.t 23)), xv 8 24]) (.seq (.seq (xr [xo 9 (.mv (xi 0))]) (.blk 0 (.loop (.seq (.seq (xr [xv 25 9, xo 26 (.fad 0 (.t 6)), xo 27 (.load 1 false (.t 26)), xo 28 (.len (.t 27)), xo 29 (.bin .lss (.t 25) (.t 28))]) (.cond 29 (.skip) (.exit 0))) (.seq (.blk 1 (.seq (.dreg (.take 0 (xo 32 (.fad 0 (.t 6))) (.take 1 (xo 33 (.load 1 false (.t 32))) (.take 2 (xv 34 9) (.only 3 [] (xv 35 8) (.only 4 [] (xo 36 (.call 192 [true] [.t 35])) (.only 5 [0, 1, 2] (xo 37 (.iad 3 (.t 33) (.t 34))) (.only 6 [0, 1, 2] (xo 38 (.fad 0 (.t 37))) (.only 7 [0, 1, 2] ⟨none, .store 1 (.t 38) (.t 36), none⟩ (.done)))))))))) (.seq (.dreg (.take 0 (xo 39 (.fad 0 (.t 6))) (.take 1 (xo 40 (.load 1 false (.t 39))) (.take 2 (xv 41 9) (.only 3 [] (xv 42 8) (.only 4 [] (xo 43 (.call 192 [true] [.t 42])) (.only 5 [0, 1, 2] (xo 44 (.iad 3 (.t 40) (.t 41))) (.only 6 [0, 1, 2] (xo 45 (.fad 2 (.t 44))) (.only 7 [0, 1, 2] ⟨none, .store 1 (.t 45) (.t 43), none⟩ (.done)))))))))) (.dreg (.take 0 (xo 46 (.fad 0 (.t 6))) (.take 1 (xo 47 (.load 1 false (.t 46))) (.take 2 (xv 48 9) (.only 3 [] (xv 49 8) (.only 4 [] (xo 50 (.call 193 [true, false] [.t 49, xi 4])) (.only 5 [0, 1, 2] (xo 51 (.iad 3 (.t 47) (.t 48))) (.only 6 [0, 1, 2] (xo 52 (.fad 1 (.t 51))) (.only 7 [0, 1, 2] ⟨none, .store 1 (.t 52) (.t 50), none⟩ (.done))))))))))))) (xr [xv 30 9, xo 31 (.bin .add (.t 30) (xi 1)), xv 9 31])))))) (.seq (.seq (xr [xo 10 (.mv (xi 0))]) (.blk 2 (.loop (.seq (.seq (xr [xv 53 10, xo 54 (.fad 1 (.t 6)), xo 55 (.load 1 false (.t 54)), xo 56 (.len (.t 55)), xo 57 (.bin .lss (.t 53) (.t 56))]) (.cond 57 (.skip) (.exit 2))) (.seq (.blk 3 (.seq (xr [xv 60 8, xo 61 (.call 192 [true] [.t 60]), xv 11 61]) (.seq (.dreg (.take 0 (xo 62 (.fad 1 (.t 6))) (.take 1 (xo 63 (.load 1 false (.t 62))) (.take 2 (xv 64 10) (.take 3 (xv 65 8) (.only 4 [] (xv 66 11) (.only 5 [] (xo 67 (.call 147 [false, false] [.t 66, xi 5])) (.only 6 [3] (xo 68 (.call 193 [true, false] [.t 65, .t 67])) (.only 7 [0, 1, 2, 3] (xo 69 (.iad 3 (.t 63) (.t 64))) (.only 8 [0, 1, 2, 3] (xo 70 (.fad 1 (.t 69))) (.only 9 [0, 1, 2, 3] ⟨none, .store 1 (.t 70) (.t 68), none⟩ (.done)))))))))))) (.dreg (.take 0 (xo 71 (.fad 1 (.t 6))) (.take 1 (xo 72 (.load 1 false (.t 71))) (.take 2 (xv 73 10) (.only 3 [] (xv 74 8) (.only 4 [] (xo 75 (.call 192 [true] [.t 74])) (.only 5 [] (xo 76 (.bin .eql (.t 75) (xi 1))) (.only 6 [0, 1, 2] (xo 77 (.iad 3 (.t 72) (.t 73))) (.only 7 [0, 1, 2] (xo 78 (.fad 2 (.t 77))) (.only 8 [0, 1, 2] ⟨none, .store 1 (.t 78) (.t 76), none⟩ (.done)))))))))))))) (xr [xv 58 10, xo 59 (.bin .add (.t 58) (xi 1)), xv 10 59])))))) (.seq (xr [xv 79 8, xo 80 (.call 192 [true] [.t 79]), xv 12 80]) (.seq (.seq (xr [xo 13 (.mv (xi 0))]) (.blk 4 (.loop (.seq (.seq (xr [xv 81 13, xv 82 12, xo 83 (.call 147 [false, false] [.t 82, xi 4001]), xo 84 (.bin .lss (.t 81) (.t 83)), xv 85 84, xg 86 (.mv (.t 8)) 85 true, xg 87 (.nilck (.t 86)) 85 true, xg 88 (.fad 2 (.t 87)) 85 true, xg 89 (.load 1 false (.t 88)) 85 true, xo 90 (.pick (.t 85) (.t 89) (.c (.bool false)))]) (.cond 90 (.skip) (.exit 4))) (.seq (.blk 5 (.seq (xr [xv 93 8, xo 94 (.call 192 [true] [.t 93]), xv 14 94]) (.dreg (.take 0 (xo 95 (.fad 2 (.t 6))) (.take 1 (xo 96 (.load 1 false (.t 95))) (.take 2 (xv 97 14) (.only 3 [] (xv 98 8) (.only 4 [] (xo 99 (.call 192 [true] [.t 98])) (.only 5 [2] (xo 100 (.build [xz, xz] [(0, 1, .t 97), (1, 1, .t 99)])) (.only 6 [] (xo 101 (.mkSl [xz, xz] 1 [(0, .t 100)])) (.only 7 [1] (xo 102 (.app 2 16 (.t 96) (.t 101))) (.only 8 [0, 1, 2] (xo 103 (.fad 2 (.t 6))) (.only 9 [0, 1, 2] ⟨none, .store 1 (.t 103) (.t 102), none⟩ (.done)))))))))))))) (xr [xv 91 13, xo 92 (.bin .add (.t 91) (xi 1)), xv 13 92])))))) (.seq (xr [xo 104 (.load 2 true (.t 2)), xo 105 (.load 3 true (.t 6)), xo 106 (.call 194 [false, false] [.t 104, .t 105]), xv 15 106]) (.seq (.seq (xr [xv 107 8, xo 108 (.nilck (.t 107)), xo 109 (.fad 2 (.t 108)), xo 110 (.load 1 false (.t 109)), xo 111 (.un .«not» (.t 110)), xv 112 111, xg 113 (.mv (.t 15)) 112 false, xg 114 (.len (.t 113)) 112 false, xg 115 (.bin .eql (.t 114) (xi 0)) 112 false, xo 116 (.pick (.t 112) (.c (.bool true)) (.t 115)), xv 117 116, xg 118 (.mv (.t 15)) 117 false, xg 119 (.cvs (.t 118)) 117 false, xg 120 (.mv (.t 1)) 117 false, xg 121 (.cvs (.t 120)) 117 false, xg 122 (.bin .neq (.t 119) (.t 121)) 117 false, xo 123 (.pick (.t 117) (.c (.bool true)) (.t 122))]) (.cond 123 (.seq (xr [xo 124 (.build [.nil, .nil, .nil] []), ⟨none, .store 3 (.t 4) (.t 124), none⟩, xo 5 (.mv (.c (.bool false)))]) (.ret)) (.skip))) (.seq (xr [xo 125 (.load 3 true (.t 6)), ⟨none, .store 3 (.t 4) (.t 125), none⟩, xo 5 (.mv (.c (.bool true)))]) (.ret))))))))))⟩
theorem c153 : chkC Try.prog num Try.f16.ntmps m153.body ((Try.f16.body).getD .skip) = true := by kernel_rfl
def m154 : MFn := ⟨117, [.cell 4 3 true, .t 5], .seq (xr [xo 2 (.box (.t 0)), xo 4 (.alloc [.nil, .nil, .nil]), xo 5 (.mv (.c (.bool false)))]) (.seq (xr [xo 18 (.load 2 true (.t 2)), xo 19 (.call 24 [false] [.t 18]), xv 17 19, xo 20 (.ext (.t 17) 0), xo 21 (.ext (.t 17) 1), xo 6 (.alloc [.nil, .nil, .nil]), ⟨none, .store 3 (.t 6) (.t 20), none⟩, xv 7 21]) (.seq (.seq (xr [xv 22 7, xo 23 (.un .«not» (.t 22))]) (.cond 23 (.seq (xr [xo 24 (.build [.nil, .nil, .nil] []), ⟨none, .store 3 (.t 4) (.t 24), none⟩, xo 5 (.mv (.c (.bool false)))]) (.ret)) (.skip))) (.seq (xr [xv 25 1, xo 26 (.build [.nil, .int .i64 0, .bool false] [(0, 1, .t 25)]), xo 27 (.box (.t 26)), xv 8 27]) (.seq (.seq (xr [xo 28 (.fad 0 (.t 6)), xo 29 (.load 1 false (.t 28)), xo 30 (.len (.t 29)), xo 31 (.mv (xi 0))]) (.blk 0 (.loop (.seq (xr [xo 32 (.bin .lss (.t 31) (.t 30))]) (.seq (.cond 32 (.skip) (.exit 0)) (.seq (.blk 1 (.seq (xr [xv 33 31, xv 9 33]) (.seq (xr [xo 34 (.fad 0 (.t 6)), xo 35 (.load 1 false (.t 34)), xv 36 9, xo 37 (.iad 3 (.t 35) (.t 36)), xv 10 37]) (.seq (xr [xv 38 10, xv 39 8, xo 40 (.call 195 [true] [.t 39]), xo 41 (.nilck (.t 38)), xo 42 (.fad 0 (.t 41)), ⟨none, .store 1 (.t 42) (.t 40), none⟩]) (.seq (xr [xv 43 10, xv 44 8, xo 45 (.call 195 [true] [.t 44]), xo 46 (.nilck (.t 43)), xo 47 (.fad 2 (.t 46)), ⟨none, .store 1 (.t 47) (.t 45), none⟩]) (xr [xv 48 10, xv 49 8, xo 50 (.call 196 [true, false] [.t 49, xi 4]), xo 51 (.nilck (.t 48)), xo 52 (.fad 1 (.t 51)), ⟨none, .store 1 (.t 52) (.t 50), none⟩])))))) (xr [xo 53 (.bin .add (.t 31) (xi 1)), xv 31 53]))))))) (.seq (.seq (xr [xo 54 (.fad 1 (.t 6)), xo 55 (.load 1 false (.t 54)), xo 56 (.len (.t 55)), xo 57 (.mv (xi 0))]) (.blk 2 (.loop (.seq (xr [xo 58 (.bin .lss (.t 57) (.t 56))]) (.seq (.cond 58 (.skip) (.exit 2)) (.seq (.blk 3 (.seq (xr [xv 59 57, xv 11 59]) (.seq (xr [xo 60 (.fad 1 (.t 6)), xo 61 (.load 1 false (.t 60)), xv 62 11, xo 63 (.iad 3 (.t 61) (.t 62)), xv 12 63]) (.seq (xr [xv 64 8, xo 65 (.call 197 [true, false] [.t 64, xi 4]), xv 13 65]) (.seq (xr [xv 66 12, xv 67 8, xv 68 13, xo 69 (.call 196 [true, false] [.t 67, .t 68]), xo 70 (.nilck (.t 66)), xo 71 (.fad 1 (.t 70)), ⟨none, .store 1 (.t 71) (.t 69), none⟩]) (.seq (xr [xv 72 8, xo 73 (.call 197 [true, false] [.t 72, xi 1]), xv 14 73]) (xr [xv 74 12, xv 75 14, xo 76 (.bin .eql (.t 75) (xi 1)), xo 77 (.nilck (.t 74)), xo 78 (.fad 2 (.t 77)), ⟨none, .store 1 (.t 78) (.t 76), none⟩]))))))) (xr [xo 79 (.bin .add (.t 57) (xi 1)), xv 57 79]))))))) (.seq (xr [xv 80 8, xo 81 (.call 197 [true, false] [.t 80, xi 4000]), xv 15 81]) (.seq (.seq (xr [xv 82 15, xo 83 (.mv (xi 0))]) (.blk 4 (.loop (.seq (xr [xo 84 (.bin .lss (.t 83) (.t 82))]) (.seq (.cond 84 (.skip) (.exit 4)) (.seq (.blk 5 (.seq (xr [xo 85 (.build [xz, xz] []), xo 16 (.alloc [xz, xz]), ⟨none, .store 2 (.t 16) (.t 85), none⟩]) (.seq (xr [xv 86 8, xo 87 (.call 195 [true] [.t 86]), xo 88 (.fad 0 (.t 16)), ⟨none, .store 1 (.t 88) (.t 87), none⟩]) (.seq (xr [xv 89 8, xo 90 (.call 195 [true] [.t 89]), xo 91 (.fad 1 (.t 16)), ⟨none, .store 1 (.t 91) (.t 90), none⟩]) (xr [xo 92 (.fad 2 (.t 6)), xo 93 (.load 1 false (.t 92)), xo 94 (.load 2 true (.t 16)), xo 95 (.mkSl [xz, xz] 1 [(0, .t 94)]), xo 96 (.app 2 16 (.t 93) (.t 95)), xo 97 (.fad 2 (.t 6)), ⟨none, .store 1 (.t 97) (.t 96), none⟩]))))) (xr [xo 98 (.bin .add (.t 83) (xi 1)), xv 83 98]))))))) (.seq (.seq (xr [xv 99 8, xo 100 (.nilck (.t 99)), xo 101 (.fad 2 (.t 100)), xo 102 (.load 1 false (.t 101)), xv 103 102, xg 104 (.load 2 true (.t 2)) 103 false, xg 105 (.load 3 true (.t 6)) 103 false, xg 106 (.call 50 [false, false] [.t 104, .t 105]) 103 false, xg 107 (.un .«not» (.t 106)) 103 false, xo 108 (.pick (.t 103) (.c (.bool true)) (.t 107)), xv 109 108, xg 110 (.call 198 [false] [.t 6]) 109 false, xg 111 (.mv (.t 1)) 109 false, xg 112 (.call 199 [false, false] [.t 110, .t 111]) 109 false, xg 113 (.un .«not» (.t 112)) 109 false, xo 114 (.pick (.t 109) (.c (.bool true)) (.t 113))]) (.cond 114 (.seq (xr [xo 115 (.build [.nil, .nil, .nil] []), ⟨none, .store 3 (.t 4) (.t 115), none⟩, xo 5 (.mv (.c (.bool false)))]) (.ret)) (.skip))) (.seq (xr [xo 116 (.load 3 true (.t 6)), ⟨none, .store 3 (.t 4) (.t 116), none⟩, xo 5 (.mv (.c (.bool true)))]) (.ret))))))))))⟩
theorem c154 : chkC Try.prog num Try.f19.ntmps m154.body ((Try.f19.body).getD .skip) = true := by kernel_rfl
open Nat renaming reduceAdd → qA, reduceMul → qB, reduceEqDiff → qC, reduceBEq → qD
open Int renaming reduceToNat → qE, reduceEq → qF, reduceLT → qG, reduceLE → qH
open List renaming getD_eq_getElem?_getD → gD

attribute [local simp] rdC rdS
theorem getD_fresh {α : Type} (l : List α) (x d : α) (n i : Nat) (h : l.length = i) (hi : i < n) : (l ++ List.replicate (n - i) x).getD i d = x := by
  rw [List.getD_eq_getElem?_getD, List.getElem?_append_right (by omega), h, Nat.sub_self]
  have : n - i = (n - i - 1) + 1 := by omega
  rw [this, List.replicate_succ]
  rfl
theorem set_fresh {α : Type} (l : List α) (x y : α) (n i : Nat) (h : l.length = i) (hi : i < n) : (l ++ List.replicate (n - i) x).set i y = (l ++ [y]) ++ List.replicate (n - (i + 1)) x := by
  have : n - i = (n - (i + 1)) + 1 := by omega
  rw [List.set_append_right _ _ (by omega), h, Nat.sub_self, this, List.replicate_succ, List.set_cons_zero, List.append_assoc]
  rfl

theorem getD_mix {α : Type} (l m : List α) (d : α) (i : Nat) (h : l.length = i) : (l ++ m.drop i).getD i d = m.getD i d := by
  rw [List.getD_eq_getElem?_getD, List.getElem?_append_right (by omega), h]
  simp [List.getD_eq_getElem?_getD]
theorem set_mix {α : Type} (l m : List α) (y : α) (i : Nat) (h : l.length = i) (hi : i < m.length) : (l ++ m.drop i).set i y = (l ++ [y]) ++ m.drop (i + 1) := by
  rw [List.set_append_right _ _ (by omega), h, Nat.sub_self, List.drop_eq_getElem_cons hi, List.set_cons_zero, List.append_assoc]
  rfl
theorem notes_snoc (o : List Note) (a c : Int) : notes o ++ [[.int .i64 a, .int .i64 c]] = notes (o ++ [⟨a, c⟩]) := by simp [notes, noteC]
theorem u8_in (n : Int) : isByte (IntKind.u8.wrap n) := by
  unfold IntKind.wrap isByte
  have h1 : IntKind.u8.bits = 8 := rfl
  have h2 : IntKind.u8.signed = false := rfl
  simp only [h1, h2]
  simp
  omega
theorem putInt_in (n : Int) : ∀ x ∈ putInt n, isByte x := by
  intro x hx
  simp only [putInt, List.mem_cons, List.not_mem_nil, or_false] at hx
  rcases hx with rfl | rfl | rfl | rfl | rfl | rfl | rfl | rfl | rfl
  · split <;> (unfold isByte; omega)
  all_goals exact u8_in _
theorem putAll_in (l : List Int) : ∀ x ∈ putAll l, isByte x := by
  intro x hx
  unfold putAll at hx
  rw [List.mem_flatMap] at hx
  obtain ⟨n, _, h⟩ := hx
  exact putInt_in n x h
theorem srcBytes_in (s : Source) : ∀ x ∈ srcBytes s, isByte x := by
  intro x hx
  simp only [srcBytes, List.mem_append, List.mem_flatMap] at hx
  rcases hx with ⟨t, _, h⟩ | ⟨c, _, h⟩ | h | ⟨n, _, h⟩
  · simp only [thBytes, List.mem_append] at h
    rcases h with h | h <;> exact putAll_in _ x h
  · simp only [chBytes, List.mem_append] at h
    rcases h with h | h | h <;> exact putAll_in _ x h
  · exact putAll_in _ x h
  · exact putAll_in _ x h
def chan0 (c : Int) : Chan := ⟨c, [], false⟩

set_option maxHeartbeats 8000000 in
theorem implSourceOf_fz (p : Prog) (b : List Int) (hp : SmallP p) (hb : b.length < 2 ^ 40) (hby : ∀ x ∈ b, isByte x) : CallOk Try.prog num 154 [.agg (progC .bw p), .sl .fz 1 (bys b)] [] (.tup [.agg (sourceC .own (implOf p b).1), .bool (implOf p b).2]) := by
  have hb2 : b.length < 2 ^ 62 := by omega
  obtain ⟨hp1, hp2, hp3⟩ := hp
  refine enter (m := m154) (f := 154) (fn := Try.f19) Try.func19 (by kernel_rfl) rfl c154 rfl (by simp [Try.f19]) (by simp [bnds, bnd, nf_sl, nf_int, nf_bool, nf_str, ints_bnd]) (fun _ _ h => by simp [preH, look] at h) ?_
  unfold m154
  simp only [go_sem, qA, qB, qC, qD, qE, qF, qG, qH]
  repeat refine K ?_
  refine CA [] (implSourceNew_ok p hp1 hp2 (fun x hx => by have := hp3 x hx; omega)) ?_
  try simp only [go_sem, qA, qB, qC, qD, qE, qF, qG, qH]
  repeat refine K ?_
  cases hok : progOk p
  · have hn : (sourceNew p).2 = false := by simp [sourceNew, hok]
    try simp only [go_sem, qA, qB, qC, qD, qE, qF, qG, qH, hn]
    repeat refine K ?_
    apply fin_tup (by simp)
    · exact Sub.refl _
    · simp [-List.drop_one, -gD, implOf, hok, threads_nil, chans_nil, notes_nil] <;> (first | rfl | exact ⟨rfl, rfl⟩ | exact ⟨rfl, rfl, rfl⟩ | skip)
  have hn : sourceNew p = (⟨List.replicate p.bods.length thread0, p.caps.map chan0, []⟩, true) := by unfold sourceNew; rw [if_pos hok]; rfl
  rw [hn]
  try simp only [go_sem, qA, qB, qC, qD, qE, qF, qG, qH]
  repeat refine K ?_
  have r0 : Rd.In b ⟨0, false⟩ := ⟨by simp, by simp⟩
  refine loop_intro (ι := Nat) (fun i => .mk [(1, .sl .fz 1 (bys b)), (2, .ptr 10 0 0), (4, .ptr 11 0 0), (6, .ptr 15 0 0), (8, .ptr 16 0 0), (30, .int .i64 p.bods.length), (31, .int .i64 i)] [(10, 2, [progC .bw p]), (11, 3, [[.nil, .nil, .nil]]), (15, 3, [sourceC .own ⟨(rdSeq (fun _ => rdThread b) i ⟨0, false⟩).1 ++ List.replicate (p.bods.length - i) thread0, p.caps.map chan0, []⟩]), (16, 3, [rdC b (rdSeq (fun _ => rdThread b) i ⟨0, false⟩).2])] 17) (fun i => i ≤ p.bods.length) (fun i => p.bods.length - i) 0 (by simp) ?_ ?_
  · refine Sub.trans (Sub.fold1 15 0 12 rfl (by simp [-gD] <;> omega) rfl (by decide) (by decide) rfl) ?_
    simp only [fS, qA, qC]
    refine Sub.trans (Sub.fold1 15 1 13 rfl (by simp [-gD] <;> omega) rfl (by decide) (by decide) rfl) ?_
    simp only [fS, qA, qC]
    refine Sub.trans (Sub.fold1 15 2 14 rfl (by simp [-gD] <;> omega) rfl (by decide) (by decide) rfl) ?_
    simp only [fS, qA, qC]
    refine Sub.shape [] id (by omega) ?_ ?_ ?_ ?_ <;> simp [ints_rep]
    all_goals simp [rdSeq]
  · intro i hi
    have g1 := rdSeq_in (b := b) (f := fun _ => rdThread b) (fun _ _ h => rdThread_in h) r0 i
    have hl := rdSeq_length (fun _ => rdThread b) ⟨0, false⟩ i
    have hnext : rdSeq (fun _ => rdThread b) (i + 1) ⟨0, false⟩ = ((rdSeq (fun _ => rdThread b) i ⟨0, false⟩).1 ++ [(rdThread b (rdSeq (fun _ => rdThread b) i ⟨0, false⟩).2).1], (rdThread b (rdSeq (fun _ => rdThread b) i ⟨0, false⟩).2).2) := rfl
    have hfin : i = p.bods.length → rdSeq (fun _ => rdThread b) i ⟨0, false⟩ = parseT p b := fun h => by rw [h]; rfl
    generalize rdSeq (fun _ => rdThread b) i ⟨0, false⟩ = st at g1 hl hnext hfin
    obtain ⟨l, r⟩ := st
    simp only at g1 hl hnext
    simp only [go_sem, qA, qB, qC, qD, qE, qF, qG, qH]
    refine branch_intro (fun hc => ?_) (fun hc => ?_)
    · simp only [decide_eq_true_eq] at hc
      have hi' : i < p.bods.length := by omega
      have hL : (l ++ List.replicate (p.bods.length - i) thread0).length = p.bods.length := by simp; omega
      have gb : (threads .own (l ++ List.replicate (p.bods.length - i) thread0)).getD i [] = [.int .i64 0, .sl .own 1 (ints [0, 0, 0, 0]), .int .i64 0] := by
        rw [threads_getD .own _ i (by rw [hL]; exact hi'), getD_fresh l thread0 default _ i hl hi']
        rfl
      have gi : ∀ a0 a1 a2, (threads .own ((l ++ List.replicate (p.bods.length - i) thread0).set i ⟨a0, a1, a2⟩)).getD i [] = [.int .i64 a0, .sl .own 1 (ints a1), .int .i64 a2] := fun a0 a1 a2 => by
        rw [threads_getD .own _ i (by rw [List.length_set, hL]; exact hi'), getD_set_self _ _ _ _ (by rw [hL]; exact hi')]
      have gv : ∀ x r, ((threads .own ((l ++ List.replicate (p.bods.length - i) thread0).set i x)).set i r).getD i [] = r := fun x r => getD_set_self _ _ _ _ (by rw [threads_length, List.length_set, hL]; exact hi')
      simp only [go_sem, qA, qB, qC, qD, qE, qF, qG, qH, gb, gi, gv, hL, List.length_set]
      repeat refine K ?_
      refine CA [(0, 16)] (reader_number_ok b r g1 hb2) ?_
      try simp only [go_sem, qA, qB, qC, qD, qE, qF, qG, qH]
      repeat refine K ?_
      try simp only [go_sem, qA, qB, qC, qD, qE, qF, qG, qH, gb, gi, gv, hL, List.length_set]
      repeat refine K ?_
      refine CA [(0, 16)] (reader_number_ok b (rdNum b r).2 (rdNum_in g1) hb2) ?_
      try simp only [go_sem, qA, qB, qC, qD, qE, qF, qG, qH]
      repeat refine K ?_
      try simp only [go_sem, qA, qB, qC, qD, qE, qF, qG, qH, gb, gi, gv, hL, List.length_set]
      repeat refine K ?_
      refine CA [(0, 16)] (reader_numbers_ok b (rdNum b (rdNum b r).2).2 4 (rdNum_in (rdNum_in g1)) hb2 (by omega)) ?_
      try simp only [go_sem, qA, qB, qC, qD, qE, qF, qG, qH]
      repeat refine K ?_
      try simp only [go_sem, qA, qB, qC, qD, qE, qF, qG, qH, gb, gi, gv, hL, List.length_set, wrap_succ (i := i) (by omega)]
      repeat refine K ?_
      refine back_intro (i + 1) ?_ hi' (by omega)
      simp only [hnext, rdThread]
      refine Sub.trans (Sub.foldAt 17 1 18 rfl (by simp [-gD] <;> omega) rfl (by decide) (by decide) rfl (by simp <;> omega)) ?_
      simp only [fS, qA, qC, threads_set, List.set_set]
      rw [set_fresh l thread0 _ _ i hl hi']
      have hL2 : l.length + 1 + (p.bods.length - (i + 1)) = p.bods.length := by omega
      refine Sub.trans (Sub.fold1 15 0 17 rfl (by simp [-gD] <;> omega) rfl (by decide) (by decide) rfl) ?_
      simp only [fS, qA, qC, hL2]
      refine Sub.shape [] id (by omega) ?_ ?_ ?_ ?_ <;> simp [ints_rep]
    · simp only [decide_eq_false_iff_not] at hc
      have hie : i = p.bods.length := by omega
      have hf := hfin hie
      subst hie
      have hlr : l ++ List.replicate (p.bods.length - p.bods.length) thread0 = l := by simp
      rw [hlr]
      simp only [go_sem, qA, qB, qC, qD, qE, qF, qG, qH]
      repeat refine K ?_
      have hpc : (l, r) = parseT p b := hf
      have hM : (p.caps.map chan0).length = p.caps.length := by simp
      refine loop_intro (ι := Nat) (fun i => .mk [(1, .sl .fz 1 (bys b)), (2, .ptr 10 0 0), (4, .ptr 11 0 0), (6, .ptr 15 0 0), (8, .ptr 16 0 0), (56, .int .i64 p.caps.length), (57, .int .i64 i)] [(10, 2, [progC .bw p]), (11, 3, [[.nil, .nil, .nil]]), (15, 3, [sourceC .own ⟨l, (rdSeq (fun i => rdChan b (p.caps.getD i 0)) i r).1 ++ (p.caps.map chan0).drop i, []⟩]), (16, 3, [rdC b (rdSeq (fun i => rdChan b (p.caps.getD i 0)) i r).2])] 17) (fun i => i ≤ p.caps.length) (fun i => p.caps.length - i) 0 (by simp) ?_ ?_
      · refine Sub.trans (Sub.fold1 15 1 17 rfl (by simp [-gD] <;> omega) rfl (by decide) (by decide) rfl) ?_
        simp only [fS, qA, qC, hM]
        refine Sub.shape [] id (by omega) ?_ ?_ ?_ ?_ <;> simp [ints_rep]
        all_goals simp [rdSeq]
      · clear hc
        intro i hi
        have h1 := rdSeq_in (b := b) (f := fun i => rdChan b (p.caps.getD i 0)) (fun _ _ h => rdChan_in h) g1 i
        have h2 := rdSeq_length (fun i => rdChan b (p.caps.getD i 0)) r i
        have hnext : rdSeq (fun i => rdChan b (p.caps.getD i 0)) (i + 1) r = ((rdSeq (fun i => rdChan b (p.caps.getD i 0)) i r).1 ++ [(rdChan b (p.caps.getD i 0) (rdSeq (fun i => rdChan b (p.caps.getD i 0)) i r).2).1], (rdChan b (p.caps.getD i 0) (rdSeq (fun i => rdChan b (p.caps.getD i 0)) i r).2).2) := rfl
        have hfin : i = p.caps.length → rdSeq (fun i => rdChan b (p.caps.getD i 0)) i r = parseC p b := fun h => by rw [h]; unfold parseC; rw [← hpc]
        generalize rdSeq (fun i => rdChan b (p.caps.getD i 0)) i r = st at h1 h2 hnext hfin
        obtain ⟨m, q⟩ := st
        simp only at h1 h2 hnext
        simp only [go_sem, qA, qB, qC, qD, qE, qF, qG, qH]
        have hL : (m ++ (p.caps.map chan0).drop i).length = p.caps.length := by simp; omega
        refine branch_intro (fun hc => ?_) (fun hc => ?_)
        · have hi' : i < p.caps.length := by simp at hc; omega
          have gb : (chans .own (m ++ (p.caps.map chan0).drop i)).getD i [] = [.int .i64 (p.caps.getD i 0), .sl .own 1 (ints []), .bool false] := by
            rw [chans_getD .own _ i (by rw [hL]; exact hi'), getD_mix m _ default i h2]
            have : (p.caps.map chan0).getD i default = chan0 (p.caps.getD i 0) := by simp [List.getD_eq_getElem?_getD, hi']
            rw [this]
            rfl
          have gi : ∀ a0 a1 a2, (chans .own ((m ++ (p.caps.map chan0).drop i).set i ⟨a0, a1, a2⟩)).getD i [] = [.int .i64 a0, .sl .own 1 (ints a1), .bool a2] := fun a0 a1 a2 => by
            rw [chans_getD .own _ i (by rw [List.length_set, hL]; exact hi'), getD_set_self _ _ _ _ (by rw [hL]; exact hi')]
          have gv : ∀ r, ((chans .own (m ++ (p.caps.map chan0).drop i)).set i r).getD i [] = r := fun r => getD_set_self _ _ _ _ (by rw [chans_length, hL]; exact hi')
          simp only [go_sem, qA, qB, qC, qD, qE, qF, qG, qH, gb, gi, gv, hL, List.length_set]
          repeat refine K ?_
          refine CA [(0, 16)] (reader_count_ok b q 4 h1 hb2) ?_
          try simp only [go_sem, qA, qB, qC, qD, qE, qF, qG, qH]
          repeat refine K ?_
          have k1 := rdCount_in (most := 4) h1
          have k2 := rdCount_le (b := b) (r := q) (most := 4) (by omega)
          have hch : rdChan b (p.caps.getD i 0) q = (⟨p.caps.getD i 0, (rdMany b (rdCount b q 4).1.toNat (rdCount b q 4).2).1, decide ((rdCount b (rdMany b (rdCount b q 4).1.toNat (rdCount b q 4).2).2 1).1 = 1)⟩, (rdCount b (rdMany b (rdCount b q 4).1.toNat (rdCount b q 4).2).2 1).2) := rfl
          rw [hch] at hnext
          generalize rdCount b q 4 = c at k1 k2 hnext
          obtain ⟨n, c⟩ := c
          simp only at k1 k2 hnext
          obtain ⟨n, rfl⟩ := Int.eq_ofNat_of_zero_le k2.1
          simp only [Int.toNat_natCast] at hnext
          try simp only [go_sem, qA, qB, qC, qD, qE, qF, qG, qH, gb, gi, gv, hL, List.length_set]
          repeat refine K ?_
          refine CA [(0, 16)] (reader_numbers_ok b c n k1 hb2 (by omega)) ?_
          try simp only [go_sem, qA, qB, qC, qD, qE, qF, qG, qH]
          repeat refine K ?_
          try simp only [go_sem, qA, qB, qC, qD, qE, qF, qG, qH, gb, gi, gv, hL, List.length_set]
          repeat refine K ?_
          refine CA [(0, 16)] (reader_count_ok b (rdMany b n c).2 1 (rdMany_in k1 n).1 hb2) ?_
          try simp only [go_sem, qA, qB, qC, qD, qE, qF, qG, qH]
          repeat refine K ?_
          try simp only [go_sem, qA, qB, qC, qD, qE, qF, qG, qH, gb, gi, gv, hL, List.length_set, wrap_succ (i := i) (by omega)]
          repeat refine K ?_
          refine back_intro (i + 1) ?_ hi' (by omega)
          rw [hnext]
          have hL2 : m.length + 1 + ((p.caps.map chan0).drop (i + 1)).length = p.caps.length := by simp; omega
          refine Sub.trans (Sub.foldAt 17 1 18 rfl (by simp [-gD] <;> omega) rfl (by decide) (by decide) rfl (by simp <;> omega)) ?_
          simp only [fS, qA, qC, chans_set, set_mix m _ _ i h2 (by rw [hM]; exact hi')]
          refine Sub.trans (Sub.fold1 15 1 17 rfl (by simp [-gD] <;> omega) rfl (by decide) (by decide) rfl) ?_
          simp only [fS, qA, qC, hL2]
          refine Sub.shape [] id (by omega) ?_ ?_ ?_ ?_ <;> simp [ints_rep]
        · have hie : i = p.caps.length := by simp at hc; omega
          have hf := hfin hie
          subst hie
          have hlr : m ++ (p.caps.map chan0).drop p.caps.length = m := by simp
          rw [hlr]
          simp only [go_sem, qA, qB, qC, qD, qE, qF, qG, qH]
          repeat refine K ?_
          refine CA [(0, 16)] (reader_count_ok b q 4000 h1 hb2) ?_
          try simp only [go_sem, qA, qB, qC, qD, qE, qF, qG, qH]
          repeat refine K ?_
          have k1 := rdCount_in (most := 4000) h1
          have k2 := rdCount_le (b := b) (r := q) (most := 4000) (by omega)
          have hpn : parseN p b = rdSeq (fun _ => rdNote b) (rdCount b q 4000).1.toNat (rdCount b q 4000).2 := by unfold parseN; rw [← hf]
          generalize rdCount b q 4000 = c at k1 k2 hpn
          obtain ⟨n, c⟩ := c
          simp only at k1 k2 hpn
          obtain ⟨n, rfl⟩ := Int.eq_ofNat_of_zero_le k2.1
          simp only [Int.toNat_natCast] at hpn
          try simp only [go_sem, qA, qB, qC, qD, qE, qF, qG, qH]
          repeat refine K ?_
          refine loop_intro (ι := Nat) (fun i => .mk [(1, .sl .fz 1 (bys b)), (2, .ptr 10 0 0), (4, .ptr 11 0 0), (6, .ptr 15 0 0), (8, .ptr 16 0 0), (82, .int .i64 n), (83, .int .i64 i)] [(10, 2, [progC .bw p]), (11, 3, [[.nil, .nil, .nil]]), (15, 3, [sourceC .own ⟨l, m, (rdSeq (fun _ => rdNote b) i c).1⟩]), (16, 3, [rdC b (rdSeq (fun _ => rdNote b) i c).2])] 17) (fun i => i ≤ n) (fun i => n - i) 0 (by simp) ?_ ?_
          · refine Sub.shape [] id (by omega) ?_ ?_ ?_ ?_ <;> (try simp [ints_rep, rdSeq])
          · clear hc
            intro i hi
            have u1 := rdSeq_in (b := b) (f := fun _ => rdNote b) (fun _ _ h => rdNote_in h) k1 i
            have u2 := rdSeq_length (fun _ => rdNote b) c i
            have hnext3 : rdSeq (fun _ => rdNote b) (i + 1) c = ((rdSeq (fun _ => rdNote b) i c).1 ++ [(rdNote b (rdSeq (fun _ => rdNote b) i c).2).1], (rdNote b (rdSeq (fun _ => rdNote b) i c).2).2) := rfl
            have hfin3 : i = n → rdSeq (fun _ => rdNote b) i c = parseN p b := fun h => by rw [h, hpn]
            generalize rdSeq (fun _ => rdNote b) i c = st at u1 u2 hnext3 hfin3
            obtain ⟨o, t⟩ := st
            simp only at u1 u2 hnext3
            simp only [go_sem, qA, qB, qC, qD, qE, qF, qG, qH]
            refine branch_intro (fun hc => ?_) (fun hc => ?_)
            · have hi' : i < n := by simp at hc; omega
              simp only [go_sem, qA, qB, qC, qD, qE, qF, qG, qH, u2]
              repeat refine K ?_
              refine CA [(0, 16)] (reader_number_ok b t u1 hb2) ?_
              try simp only [go_sem, qA, qB, qC, qD, qE, qF, qG, qH]
              repeat refine K ?_
              try simp only [go_sem, qA, qB, qC, qD, qE, qF, qG, qH, u2]
              repeat refine K ?_
              refine CA [(0, 16)] (reader_number_ok b (rdNum b t).2 (rdNum_in u1) hb2) ?_
              try simp only [go_sem, qA, qB, qC, qD, qE, qF, qG, qH]
              repeat refine K ?_
              try simp only [go_sem, qA, qB, qC, qD, qE, qF, qG, qH, u2, wrap_succ (i := i) (by omega)]
              repeat refine K ?_
              refine back_intro (i + 1) ?_ hi' (by omega)
              simp only [hnext3, rdNote]
              refine Sub.trans (Sub.fold1 15 2 20 rfl (by simp [-gD] <;> omega) rfl (by decide) (by decide) rfl) ?_
              simp only [fS, qA, qC, notes_snoc, u2]
              refine Sub.shape [] id (by omega) ?_ ?_ ?_ ?_ <;> simp [ints_rep]
            · have hie : i = n := by simp at hc; omega
              have hf3 := hfin3 hie
              have hip : implParse p b = (⟨l, m, o⟩, t) := by unfold implParse; rw [← hpc, ← hf, ← hf3]
              have hol : o.length ≤ 4000 := by omega
              cases hbad : t.bad
              · have hrd : rdC b t = [.sl .fz 1 (bys b), .int .i64 t.a, .bool false] := by unfold rdC; rw [hbad]
                simp only [go_sem, qA, qB, qC, qD, qE, qF, qG, qH, hrd]
                repeat refine K ?_
                have hlr : ∀ t ∈ l, t.regs.length = 4 := fun x hx => by
                  have e : l = (parseT p b).1 := by rw [← hpc]
                  rw [e] at hx
                  exact rdSeq_all (b := b) (f := fun _ => rdThread b) (Q := fun (t : Thread) => t.regs.length = 4) (fun _ _ h => rdThread_in h) (fun _ r h => (rdMany_in (rdNum_in (rdNum_in h)) 4).2) r0 _ x hx
                have hlc : ∀ c ∈ m, c.list.length ≤ 4 := fun x hx => by
                  have e : m = (parseC p b).1 := by rw [← hf]
                  rw [e] at hx
                  have hr : (parseT p b).2.In b := by rw [← hpc]; exact g1
                  refine rdSeq_all (b := b) (f := fun i => rdChan b (p.caps.getD i 0)) (Q := fun (c : Chan) => c.list.length ≤ 4) (fun _ _ h => rdChan_in h) (fun _ r h => ?_) hr _ x hx
                  have := rdCount_le (b := b) (r := r) (most := 4) (by omega)
                  show (rdMany b (rdCount b r 4).1.toNat (rdCount b r 4).2).1.length ≤ 4
                  rw [(rdMany_in (rdCount_in h) _).2]
                  omega
                have hsm : Small ⟨l, m, o⟩ := ⟨by simp only; omega, by simp only; omega, by simp only; omega, fun t ht => by have := hlr t ht; omega, fun t ht => by have := hlc t ht; omega⟩
                refine CA [] (implSourceOk_ok p ⟨l, m, o⟩ ⟨hp1, hp2, hp3⟩ hsm) ?_
                try simp only [go_sem, qA, qB, qC, qD, qE, qF, qG, qH]
                repeat refine K ?_
                cases hso : sourceOk p ⟨l, m, o⟩
                · try simp only [go_sem, qA, qB, qC, qD, qE, qF, qG, qH, hso]
                  repeat refine K ?_
                  apply fin_tup (by simp)
                  · exact Sub.refl _
                  · simp [-List.drop_one, -gD, implOf, hip, hbad, hso, threads_nil, chans_nil, notes_nil] <;> (first | rfl | exact ⟨rfl, rfl⟩ | exact ⟨rfl, rfl, rfl⟩ | skip)
                try simp only [go_sem, qA, qB, qC, qD, qE, qF, qG, qH, hso]
                repeat refine K ?_
                have hsz := (srcSz_ok hso).mono (show 5000 ≤ 2097152 by decide)
                have hsb := srcBytes_in ⟨l, m, o⟩
                apply calls_mk
                · refine Sub.trans (Sub.fold1 15 0 17 rfl (by simp [-gD] <;> omega) rfl (by decide) (by decide) rfl) ?_
                  simp only [fS, qA, qC]
                  refine Sub.trans (Sub.fold1 15 1 18 rfl (by simp [-gD] <;> omega) rfl (by decide) (by decide) rfl) ?_
                  simp only [fS, qA, qC]
                  refine Sub.trans (Sub.fold1 15 2 19 rfl (by simp [-gD] <;> omega) rfl (by decide) (by decide) rfl) ?_
                  simp only [fS, qA, qC]
                  exact Sub.refl _
                refine CA [] (implSourceBytes_ok ⟨l, m, o⟩ hsz) ?_
                try simp only [go_sem, qA, qB, qC, qD, qE, qF, qG, qH]
                repeat refine K ?_
                try simp only [go_sem, qA, qB, qC, qD, qE, qF, qG, qH]
                repeat refine K ?_
                refine CA [] (bytesEqual_ok (srcBytes ⟨l, m, o⟩) b hsb hby) ?_
                try simp only [go_sem, qA, qB, qC, qD, qE, qF, qG, qH]
                repeat refine K ?_
                by_cases he : srcBytes ⟨l, m, o⟩ = b
                · try simp only [go_sem, qA, qB, qC, qD, qE, qF, qG, qH, he]
                  repeat refine K ?_
                  apply fin_tup (by simp)
                  · exact Sub.refl _
                  · simp [-List.drop_one, -gD, implOf, hip, hbad, hso, he, hok] <;> (first | rfl | exact ⟨rfl, rfl⟩ | exact ⟨rfl, rfl, rfl⟩ | skip)
                · try simp only [go_sem, qA, qB, qC, qD, qE, qF, qG, qH, he]
                  repeat refine K ?_
                  apply fin_tup (by simp)
                  · exact Sub.refl _
                  · simp [-List.drop_one, -gD, implOf, hip, hbad, hso, he, hok, threads_nil, chans_nil, notes_nil] <;> (first | rfl | exact ⟨rfl, rfl⟩ | exact ⟨rfl, rfl, rfl⟩ | skip)
              · have hrd : rdC b t = [.sl .fz 1 (bys b), .int .i64 t.a, .bool true] := by unfold rdC; rw [hbad]
                simp only [go_sem, qA, qB, qC, qD, qE, qF, qG, qH, hrd]
                repeat refine K ?_
                apply fin_tup (by simp)
                · exact Sub.refl _
                · simp [-List.drop_one, -gD, implOf, hip, hbad, threads_nil, chans_nil, notes_nil] <;> (first | rfl | exact ⟨rfl, rfl⟩ | exact ⟨rfl, rfl, rfl⟩ | skip)

attribute [local simp] rdC rdS
def rdThreadS (b : List Int) (r : Rd) : Thread × Rd := (⟨(rdNum b r).1, (rdSome b 4 (rdNum b (rdNum b r).2).2).1, (rdNum b (rdNum b r).2).1⟩, (rdSome b 4 (rdNum b (rdNum b r).2).2).2)
def rdChanS (b : List Int) (cap : Int) (r : Rd) : Chan × Rd :=
  (⟨cap, (rdSome b (if (rdNum b r).1 < 5 then (rdNum b r).1 else 5).toNat (rdNum b r).2).1, decide ((rdNum b (rdSome b (if (rdNum b r).1 < 5 then (rdNum b r).1 else 5).toNat (rdNum b r).2).2).1 = 1)⟩, (rdNum b (rdSome b (if (rdNum b r).1 < 5 then (rdNum b r).1 else 5).toNat (rdNum b r).2).2).2)
def rdNotesS (b : List Int) : Nat → Rd → List Note × Rd
  | 0, r => ([], r)
  | n + 1, r => if r.bad then ([], r) else ((rdNote b r).1 :: (rdNotesS b n (rdNote b r).2).1, (rdNotesS b n (rdNote b r).2).2)
theorem rdThreadS_in {b : List Int} {r : Rd} (h : r.In b) : (rdThreadS b r).2.In b := (rdSome_in 4 (rdNum_in (rdNum_in h))).1
theorem rdChanS_in {b : List Int} {cap : Int} {r : Rd} (h : r.In b) : (rdChanS b cap r).2.In b := rdNum_in (rdSome_in _ (rdNum_in h)).1
def parseTS (p : Prog) (b : List Int) : List Thread × Rd := rdSeq (fun _ => rdThreadS b) (sourceNew p).1.ths.length ⟨0, !(sourceNew p).2⟩
def parseCS (p : Prog) (b : List Int) : List Chan × Rd := rdSeq (fun i => rdChanS b ((sourceNew p).1.chs.getD i default).cap) (sourceNew p).1.chs.length (parseTS p b).2
def parseNS (p : Prog) (b : List Int) : List Note × Rd := rdNotesS b (if (rdNum b (parseCS p b).2).1 < 4001 then (rdNum b (parseCS p b).2).1 else 4001).toNat (rdNum b (parseCS p b).2).2
def specParse (p : Prog) (b : List Int) : Source × Rd := (⟨(parseTS p b).1, (parseCS p b).1, (parseNS p b).1⟩, (parseNS p b).2)
def specOf (p : Prog) (b : List Int) : Source × Bool :=
  if (specParse p b).2.bad = false ∧ sourceOk p (specParse p b).1 = true ∧ srcBytes (specParse p b).1 = b then ((specParse p b).1, true) else (⟨[], [], []⟩, false)
theorem srcBytes_pos (s : Source) : 0 < (srcBytes s).length := by
  simp only [srcBytes, List.length_append, putAll_length]
  simp
  omega

set_option maxHeartbeats 8000000 in
theorem specSourceOf_fz (p : Prog) (b : List Int) (hp : SmallP p) (hb : b.length < 2 ^ 40) (hby : ∀ x ∈ b, isByte x) : CallOk Try.prog num 153 [.agg (progC .bw p), .sl .fz 1 (bys b)] [] (.tup [.agg (sourceC .own (specOf p b).1), .bool (specOf p b).2]) := by
  have hb2 : b.length < 2 ^ 62 := by omega
  obtain ⟨hp1, hp2, hp3⟩ := hp
  refine enter (m := m153) (f := 153) (fn := Try.f16) Try.func16 (by kernel_rfl) rfl c153 rfl (by simp [Try.f16]) (by simp [bnds, bnd, nf_sl, nf_int, nf_bool, nf_str, ints_bnd]) (fun _ _ h => by simp [preH, look] at h) ?_
  unfold m153
  simp only [go_sem, qA, qB, qC, qD, qE, qF, qG, qH]
  repeat refine K ?_
  refine CA [] (specSourceNew_ok p hp1 hp2 (fun x hx => by have := hp3 x hx; omega)) ?_
  try simp only [go_sem, qA, qB, qC, qD, qE, qF, qG, qH]
  repeat refine K ?_
  have hnl : (sourceNew p).1.ths.length ≤ 4 ∧ (sourceNew p).1.chs.length ≤ 3 ∧ (sourceNew p).1.tr = [] := by
    unfold sourceNew
    split
    · rename_i h
      simp only [progOk, Bool.and_eq_true, decide_eq_true_eq, within_iff] at h
      exact ⟨by simp only [List.length_replicate]; omega, by simp only [List.length_map]; omega, rfl⟩
    · exact ⟨by simp, by simp, rfl⟩
  have e1 : parseTS p b = rdSeq (fun _ => rdThreadS b) (sourceNew p).1.ths.length ⟨0, !(sourceNew p).2⟩ := rfl
  have e2 : parseCS p b = rdSeq (fun i => rdChanS b ((sourceNew p).1.chs.getD i default).cap) (sourceNew p).1.chs.length (parseTS p b).2 := rfl
  generalize sourceNew p = sn at hnl e1 e2
  obtain ⟨⟨ths0, chs0, tr0⟩, ok0⟩ := sn
  simp only at hnl e1 e2
  obtain ⟨hn1, hn2, rfl⟩ := hnl
  try simp only [go_sem, qA, qB, qC, qD, qE, qF, qG, qH]
  repeat refine K ?_
  have r0 : Rd.In b ⟨0, !ok0⟩ := ⟨by simp, by simp⟩
  have hrd0 : rdS b ⟨0, !ok0⟩ = [.sl .fz 1 (bys b), .int .i64 0, .bool ok0] := by simp [rdS]
  refine loop_intro (ι := Nat) (fun i => .mk [(1, .sl .fz 1 (bys b)), (2, .ptr 10 0 0), (4, .ptr 11 0 0), (6, .ptr 15 0 0), (8, .ptr 16 0 0), (9, .int .i64 i)] [(10, 2, [progC .bw p]), (11, 3, [[.nil, .nil, .nil]]), (15, 3, [sourceC .own ⟨(rdSeq (fun _ => rdThreadS b) i ⟨0, !ok0⟩).1 ++ ths0.drop i, chs0, []⟩]), (16, 3, [rdS b (rdSeq (fun _ => rdThreadS b) i ⟨0, !ok0⟩).2])] 17) (fun i => i ≤ ths0.length) (fun i => ths0.length - i) 0 (by simp) ?_ ?_
  · refine Sub.trans (Sub.fold1 15 0 12 rfl (by simp [-gD] <;> omega) rfl (by decide) (by decide) rfl) ?_
    simp only [fS, qA, qC]
    refine Sub.trans (Sub.fold1 15 1 13 rfl (by simp [-gD] <;> omega) rfl (by decide) (by decide) rfl) ?_
    simp only [fS, qA, qC]
    refine Sub.trans (Sub.fold1 15 2 14 rfl (by simp [-gD] <;> omega) rfl (by decide) (by decide) rfl) ?_
    simp only [fS, qA, qC]
    refine Sub.shape [] id (by omega) ?_ ?_ ?_ ?_ <;> (try simp [ints_rep, rdSeq])
  · intro i hi
    have g1 := rdSeq_in (b := b) (f := fun _ => rdThreadS b) (fun _ _ h => rdThreadS_in h) r0 i
    have hl := rdSeq_length (fun _ => rdThreadS b) ⟨0, !ok0⟩ i
    have hnext : rdSeq (fun _ => rdThreadS b) (i + 1) ⟨0, !ok0⟩ = ((rdSeq (fun _ => rdThreadS b) i ⟨0, !ok0⟩).1 ++ [(rdThreadS b (rdSeq (fun _ => rdThreadS b) i ⟨0, !ok0⟩).2).1], (rdThreadS b (rdSeq (fun _ => rdThreadS b) i ⟨0, !ok0⟩).2).2) := rfl
    have hfin : i = ths0.length → rdSeq (fun _ => rdThreadS b) i ⟨0, !ok0⟩ = parseTS p b := fun h => by rw [h, e1]
    generalize rdSeq (fun _ => rdThreadS b) i ⟨0, !ok0⟩ = st at g1 hl hnext hfin
    obtain ⟨l, r⟩ := st
    simp only at g1 hl hnext
    have hL : (l ++ ths0.drop i).length = ths0.length := by simp; omega
    by_cases hc : i < ths0.length
    · have hc' : (i : Int) < ths0.length := by omega
      have gb : (threads .own (l ++ ths0.drop i)).getD i [] = [.int .i64 (ths0.getD i default).at_, .sl .own 1 (ints (ths0.getD i default).regs), .int .i64 (ths0.getD i default).st] := by
        rw [threads_getD .own _ i (by rw [hL]; exact hc), getD_mix l ths0 default i hl]
      have gi : ∀ a0 a1 a2, (threads .own ((l ++ ths0.drop i).set i ⟨a0, a1, a2⟩)).getD i [] = [.int .i64 a0, .sl .own 1 (ints a1), .int .i64 a2] := fun a0 a1 a2 => by
        rw [threads_getD .own _ i (by rw [List.length_set, hL]; exact hc), getD_set_self _ _ _ _ (by rw [hL]; exact hc)]
      have gv : ∀ x r, ((threads .own ((l ++ ths0.drop i).set i x)).set i r).getD i [] = r := fun x r => getD_set_self _ _ _ _ (by rw [threads_length, List.length_set, hL]; exact hc)
      simp only [go_sem, qA, qB, qC, qD, qE, qF, qG, qH, hc', gb, gi, gv, hL, List.length_set]
      repeat refine K ?_
      refine DA [(0, 16)] (l26Num_ok b r g1 hb2) ?_
      try simp only [go_sem, qA, qB, qC, qD, qE, qF, qG, qH]
      repeat refine K ?_
      try simp only [go_sem, qA, qB, qC, qD, qE, qF, qG, qH, gb, gi, gv, hL, List.length_set]
      repeat refine K ?_
      refine DA [(0, 16)] (l26Num_ok b (rdNum b r).2 (rdNum_in g1) hb2) ?_
      try simp only [go_sem, qA, qB, qC, qD, qE, qF, qG, qH]
      repeat refine K ?_
      try simp only [go_sem, qA, qB, qC, qD, qE, qF, qG, qH, gb, gi, gv, hL, List.length_set]
      repeat refine K ?_
      refine DA [(0, 16)] (l26Nums_ok b (rdNum b (rdNum b r).2).2 4 (rdNum_in (rdNum_in g1)) hb2 (by omega)) ?_
      try simp only [go_sem, qA, qB, qC, qD, qE, qF, qG, qH]
      repeat refine K ?_
      try simp only [go_sem, qA, qB, qC, qD, qE, qF, qG, qH, gb, gi, gv, hL, List.length_set, wrap_succ (i := i) (by omega)]
      repeat refine K ?_
      refine back_intro (i + 1) ?_ hc (by omega)
      simp only [hnext, rdThreadS]
      refine Sub.trans (Sub.foldAt 17 1 18 rfl (by simp [-gD] <;> omega) rfl (by decide) (by decide) rfl (by simp <;> omega)) ?_
      simp only [fS, qA, qC, threads_set, List.set_set]
      rw [set_mix l ths0 _ i hl hc]
      have hL2 : l.length + 1 + (ths0.drop (i + 1)).length = ths0.length := by simp; omega
      refine Sub.trans (Sub.fold1 15 0 17 rfl (by simp [-gD] <;> omega) rfl (by decide) (by decide) rfl) ?_
      simp only [fS, qA, qC, hL2]
      refine Sub.shape [] id (by omega) ?_ ?_ ?_ ?_ <;> simp [ints_rep]
    · have hc' : ¬ (i : Int) < ths0.length := by omega
      have hie : i = ths0.length := by omega
      have hf := hfin hie
      subst hie
      have hlr : l ++ ths0.drop ths0.length = l := by simp
      rw [hlr] at hL ⊢
      simp only [go_sem, qA, qB, qC, qD, qE, qF, qG, qH, hc', hL]
      repeat refine K ?_
      have hpc : (l, r) = parseTS p b := hf
      have e2' : parseCS p b = rdSeq (fun i => rdChanS b (chs0.getD i default).cap) chs0.length r := by rw [e2, ← hpc]
      refine loop_intro (ι := Nat) (fun i => .mk [(1, .sl .fz 1 (bys b)), (2, .ptr 10 0 0), (4, .ptr 11 0 0), (6, .ptr 15 0 0), (8, .ptr 16 0 0), (10, .int .i64 i)] [(10, 2, [progC .bw p]), (11, 3, [[.nil, .nil, .nil]]), (15, 3, [sourceC .own ⟨l, (rdSeq (fun i => rdChanS b (chs0.getD i default).cap) i r).1 ++ chs0.drop i, []⟩]), (16, 3, [rdS b (rdSeq (fun i => rdChanS b (chs0.getD i default).cap) i r).2])] 17) (fun i => i ≤ chs0.length) (fun i => chs0.length - i) 0 (by simp) ?_ ?_
      · refine Sub.trans (Sub.fold1 15 0 17 rfl (by simp [-gD] <;> omega) rfl (by decide) (by decide) rfl) ?_
        simp only [fS, qA, qC, hL]
        refine Sub.shape [] id (by omega) ?_ ?_ ?_ ?_ <;> (try simp [ints_rep, rdSeq])
      · clear hc hc'
        intro i hi
        have h1 := rdSeq_in (b := b) (f := fun i => rdChanS b (chs0.getD i default).cap) (fun _ _ h => rdChanS_in h) g1 i
        have h2 := rdSeq_length (fun i => rdChanS b (chs0.getD i default).cap) r i
        have hnext : rdSeq (fun i => rdChanS b (chs0.getD i default).cap) (i + 1) r = ((rdSeq (fun i => rdChanS b (chs0.getD i default).cap) i r).1 ++ [(rdChanS b (chs0.getD i default).cap (rdSeq (fun i => rdChanS b (chs0.getD i default).cap) i r).2).1], (rdChanS b (chs0.getD i default).cap (rdSeq (fun i => rdChanS b (chs0.getD i default).cap) i r).2).2) := rfl
        have hfin : i = chs0.length → rdSeq (fun i => rdChanS b (chs0.getD i default).cap) i r = parseCS p b := fun h => by rw [h, e2']
        generalize rdSeq (fun i => rdChanS b (chs0.getD i default).cap) i r = st at h1 h2 hnext hfin
        obtain ⟨m, q⟩ := st
        simp only at h1 h2 hnext
        have hL : (m ++ chs0.drop i).length = chs0.length := by simp; omega
        by_cases hc : i < chs0.length
        · have hc' : (i : Int) < chs0.length := by omega
          have gb : (chans .own (m ++ chs0.drop i)).getD i [] = [.int .i64 (chs0.getD i default).cap, .sl .own 1 (ints (chs0.getD i default).list), .bool (chs0.getD i default).closed] := by
            rw [chans_getD .own _ i (by rw [hL]; exact hc), getD_mix m chs0 default i h2]
          have gv : ∀ r, ((chans .own (m ++ chs0.drop i)).set i r).getD i [] = r := fun r => getD_set_self _ _ _ _ (by rw [chans_length, hL]; exact hc)
          simp only [go_sem, qA, qB, qC, qD, qE, qF, qG, qH, hc', gb, gv, hL, List.length_set]
          repeat refine K ?_
          refine CA [(0, 16)] (l26Num_ok b q h1 hb2) ?_
          try simp only [go_sem, qA, qB, qC, qD, qE, qF, qG, qH]
          repeat refine K ?_
          have k1 := rdNum_in h1
          have hch : rdChanS b (chs0.getD i default).cap q = (⟨(chs0.getD i default).cap, (rdSome b (if (rdNum b q).1 < 5 then (rdNum b q).1 else 5).toNat (rdNum b q).2).1, decide ((rdNum b (rdSome b (if (rdNum b q).1 < 5 then (rdNum b q).1 else 5).toNat (rdNum b q).2).2).1 = 1)⟩, (rdNum b (rdSome b (if (rdNum b q).1 < 5 then (rdNum b q).1 else 5).toNat (rdNum b q).2).2).2) := rfl
          rw [hch] at hnext
          generalize rdNum b q = c at k1 hnext
          obtain ⟨x, c⟩ := c
          simp only at k1 hnext
          try simp only [go_sem, qA, qB, qC, qD, qE, qF, qG, qH, gb, gv, hL, List.length_set]
          repeat refine K ?_
          refine DA [] (l1Min_ok x 5) ?_
          try simp only [go_sem, qA, qB, qC, qD, qE, qF, qG, qH]
          repeat refine K ?_
          have hx5 : (if x < 5 then x else 5) < 2 ^ 40 := by split <;> omega
          generalize (if x < 5 then x else 5) = y at hnext hx5
          try simp only [go_sem, qA, qB, qC, qD, qE, qF, qG, qH, gb, gv, hL, List.length_set]
          repeat refine K ?_
          refine DA [(0, 16)] (l26Nums_ok b c y k1 hb2 hx5) ?_
          try simp only [go_sem, qA, qB, qC, qD, qE, qF, qG, qH]
          repeat refine K ?_
          try simp only [go_sem, qA, qB, qC, qD, qE, qF, qG, qH, gb, gv, hL, List.length_set]
          repeat refine K ?_
          refine DA [(0, 16)] (l26Num_ok b (rdSome b y.toNat c).2 (rdSome_in y.toNat k1).1 hb2) ?_
          try simp only [go_sem, qA, qB, qC, qD, qE, qF, qG, qH]
          repeat refine K ?_
          try simp only [go_sem, qA, qB, qC, qD, qE, qF, qG, qH, gb, gv, hL, List.length_set, wrap_succ (i := i) (by omega)]
          repeat refine K ?_
          refine back_intro (i + 1) ?_ hc (by omega)
          rw [hnext]
          have hL2 : m.length + 1 + (chs0.drop (i + 1)).length = chs0.length := by simp; omega
          refine Sub.trans (Sub.foldAt 17 1 18 rfl (by simp [-gD] <;> omega) rfl (by decide) (by decide) rfl (by simp <;> omega)) ?_
          simp only [fS, qA, qC, chans_set, set_mix m chs0 _ i h2 hc]
          refine Sub.trans (Sub.fold1 15 1 17 rfl (by simp [-gD] <;> omega) rfl (by decide) (by decide) rfl) ?_
          simp only [fS, qA, qC, hL2]
          refine Sub.shape [] id (by omega) ?_ ?_ ?_ ?_ <;> simp [ints_rep]
        · have hc' : ¬ (i : Int) < chs0.length := by omega
          have hie : i = chs0.length := by omega
          have hf := hfin hie
          subst hie
          have hlr : m ++ chs0.drop chs0.length = m := by simp
          rw [hlr] at hL ⊢
          simp only [go_sem, qA, qB, qC, qD, qE, qF, qG, qH, hc', hL]
          repeat refine K ?_
          refine CA [(0, 16)] (l26Num_ok b q h1 hb2) ?_
          try simp only [go_sem, qA, qB, qC, qD, qE, qF, qG, qH]
          repeat refine K ?_
          have k1 := rdNum_in h1
          have hpn : parseNS p b = rdNotesS b (if (rdNum b q).1 < 4001 then (rdNum b q).1 else 4001).toNat (rdNum b q).2 := by unfold parseNS; rw [← hf]
          generalize rdNum b q = c at k1 hpn
          obtain ⟨n, c⟩ := c
          simp only at k1 hpn
          try simp only [go_sem, qA, qB, qC, qD, qE, qF, qG, qH]
          repeat refine K ?_
          refine loop_intro (ι := List Note × Rd) (fun s => .mk [(1, .sl .fz 1 (bys b)), (2, .ptr 10 0 0), (4, .ptr 11 0 0), (6, .ptr 15 0 0), (8, .ptr 16 0 0), (12, .int .i64 n), (13, .int .i64 s.1.length)] [(10, 2, [progC .bw p]), (11, 3, [[.nil, .nil, .nil]]), (15, 3, [sourceC .own ⟨l, m, s.1⟩]), (16, 3, [rdS b s.2])] 17) (fun s => s.2.In b ∧ s.1.length ≤ (if n < 4001 then n else 4001).toNat ∧ s.1 ++ (rdNotesS b ((if n < 4001 then n else 4001).toNat - s.1.length) s.2).1 = (parseNS p b).1 ∧ (rdNotesS b ((if n < 4001 then n else 4001).toNat - s.1.length) s.2).2 = (parseNS p b).2) (fun s => (if n < 4001 then n else 4001).toNat - s.1.length) ([], c) ⟨k1, by simp, by rw [hpn]; rfl, by rw [hpn]; rfl⟩ ?_ ?_
          · refine Sub.trans (Sub.fold1 15 1 17 rfl (by simp [-gD] <;> omega) rfl (by decide) (by decide) rfl) ?_
            simp only [fS, qA, qC, hL]
            refine Sub.shape [] id (by omega) ?_ ?_ ?_ ?_ <;> (try simp [ints_rep])
          · rintro ⟨acc, t⟩ ⟨u1, u2, u3, u4⟩
            simp only at u1 u2 u3 u4 ⊢
            have hK : (if n < 4001 then n else 4001) ≤ 4001 := by split <;> omega
            simp only [go_sem, qA, qB, qC, qD, qE, qF, qG, qH]
            refine CA [] (l1Min_ok n 4001) ?_
            try simp only [go_sem, qA, qB, qC, qD, qE, qF, qG, qH]
            repeat refine K ?_
            generalize (if n < 4001 then n else 4001) = k at u2 u3 u4 hK
            by_cases hc : (acc.length : Int) < k
            · have e : k.toNat - acc.length = (k.toNat - (acc.length + 1)) + 1 := by omega
              cases hbad : t.bad
              · rw [e] at u3 u4
                simp only [rdNotesS, hbad, Bool.false_eq_true, if_false] at u3 u4
                try simp only [go_sem, qA, qB, qC, qD, qE, qF, qG, qH, hc, rdS, hbad, Bool.not_false]
                repeat refine K ?_
                refine CA [(0, 16)] (l26Num_ok b t u1 hb2) ?_
                try simp only [go_sem, qA, qB, qC, qD, qE, qF, qG, qH]
                repeat refine K ?_
                try simp only [go_sem, qA, qB, qC, qD, qE, qF, qG, qH]
                repeat refine K ?_
                refine DA [(0, 16)] (l26Num_ok b (rdNum b t).2 (rdNum_in u1) hb2) ?_
                try simp only [go_sem, qA, qB, qC, qD, qE, qF, qG, qH]
                repeat refine K ?_
                try simp only [go_sem, qA, qB, qC, qD, qE, qF, qG, qH, wrap_succ (i := acc.length) (by omega)]
                repeat refine K ?_
                refine back_intro (acc ++ [(rdNote b t).1], (rdNote b t).2) ?_ ⟨rdNote_in u1, by simp only [List.length_append, List.length_cons, List.length_nil]; omega, by simp only [List.length_append, List.length_cons, List.length_nil, List.append_assoc, List.cons_append, List.nil_append]; exact u3, by simp only [List.length_append, List.length_cons, List.length_nil]; exact u4⟩ (by simp only [List.length_append, List.length_cons, List.length_nil]; omega)
                simp only [rdNote]
                refine Sub.trans (Sub.fold1 15 2 19 rfl (by simp [-gD] <;> omega) rfl (by decide) (by decide) rfl) ?_
                simp only [fS, qA, qC, notes_snoc]
                refine Sub.shape [] id (by omega) ?_ ?_ ?_ ?_ <;> simp [ints_rep]
              · rw [e] at u3 u4
                simp only [rdNotesS, hbad, if_true, List.append_nil] at u3 u4
                have hsp : specParse p b = (⟨l, m, acc⟩, t) := by unfold specParse; rw [← hpc, ← hf, ← u3, ← u4]
                try simp only [go_sem, qA, qB, qC, qD, qE, qF, qG, qH, hc, rdS, hbad, Bool.not_true]
                repeat refine K ?_
                have hal : acc.length ≤ 4001 := by omega
                have hlr2 : ∀ x ∈ l, x.regs.length ≤ 4 := fun x hx => by
                  have e : l = (parseTS p b).1 := by rw [← hpc]
                  rw [e, e1] at hx
                  exact rdSeq_all (b := b) (f := fun _ => rdThreadS b) (Q := fun (t : Thread) => t.regs.length ≤ 4) (fun _ _ h => rdThreadS_in h) (fun _ r h => (rdSome_in 4 (rdNum_in (rdNum_in h))).2) r0 _ x hx
                have hlc2 : ∀ x ∈ m, x.list.length ≤ 5 := fun x hx => by
                  have e : m = (parseCS p b).1 := by rw [← hf]
                  rw [e, e2'] at hx
                  refine rdSeq_all (b := b) (f := fun i => rdChanS b (chs0.getD i default).cap) (Q := fun (c : Chan) => c.list.length ≤ 5) (fun _ _ h => rdChanS_in h) (fun _ r h => ?_) g1 _ x hx
                  have h5 : (if (rdNum b r).1 < 5 then (rdNum b r).1 else 5).toNat ≤ 5 := by split <;> omega
                  exact Nat.le_trans (rdSome_in _ (rdNum_in h)).2 h5
                have hsz : SrcSz ⟨l, m, acc⟩ 2097152 := by
                  have w1 : tots wThread l ≤ 6 * l.length := tots_le fun x h => by have := hlr2 x h; unfold wThread; omega
                  have w2 : tots wChan m ≤ 7 * m.length := tots_le fun x h => by have := hlc2 x h; unfold wChan; omega
                  have w3 : tots wNote acc = 2 * acc.length := tots_const 2 acc
                  exact ⟨by simp only; omega, by simp only; omega, by simp only; omega, fun x h => by have := hlr2 x h; omega, fun x h => by have := hlc2 x h; omega, by unfold wSource; simp only; omega⟩
                refine CA [] (specSourceBytes_ok p ⟨l, m, acc⟩ ⟨hp1, hp2, hp3⟩ hsz) ?_
                try simp only [go_sem, qA, qB, qC, qD, qE, qF, qG, qH]
                repeat refine K ?_
                try simp only [go_sem, qA, qB, qC, qD, qE, qF, qG, qH, rdS, hbad, Bool.not_true]
                repeat refine K ?_
                apply fin_tup (by simp)
                · exact Sub.refl _
                · simp [-List.drop_one, -gD, specOf, hsp, hbad, threads_nil, chans_nil, notes_nil] <;> (first | rfl | exact ⟨rfl, rfl⟩ | exact ⟨rfl, rfl, rfl⟩ | skip)
            · have e : k.toNat - acc.length = 0 := by omega
              rw [e] at u3 u4
              simp only [rdNotesS, List.append_nil] at u3 u4
              have hsp : specParse p b = (⟨l, m, acc⟩, t) := by unfold specParse; rw [← hpc, ← hf, ← u3, ← u4]
              try simp only [go_sem, qA, qB, qC, qD, qE, qF, qG, qH, hc]
              repeat refine K ?_
              have hal : acc.length ≤ 4001 := by omega
              have hlr2 : ∀ x ∈ l, x.regs.length ≤ 4 := fun x hx => by
                have e : l = (parseTS p b).1 := by rw [← hpc]
                rw [e, e1] at hx
                exact rdSeq_all (b := b) (f := fun _ => rdThreadS b) (Q := fun (t : Thread) => t.regs.length ≤ 4) (fun _ _ h => rdThreadS_in h) (fun _ r h => (rdSome_in 4 (rdNum_in (rdNum_in h))).2) r0 _ x hx
              have hlc2 : ∀ x ∈ m, x.list.length ≤ 5 := fun x hx => by
                have e : m = (parseCS p b).1 := by rw [← hf]
                rw [e, e2'] at hx
                refine rdSeq_all (b := b) (f := fun i => rdChanS b (chs0.getD i default).cap) (Q := fun (c : Chan) => c.list.length ≤ 5) (fun _ _ h => rdChanS_in h) (fun _ r h => ?_) g1 _ x hx
                have h5 : (if (rdNum b r).1 < 5 then (rdNum b r).1 else 5).toNat ≤ 5 := by split <;> omega
                exact Nat.le_trans (rdSome_in _ (rdNum_in h)).2 h5
              have hsz : SrcSz ⟨l, m, acc⟩ 2097152 := by
                have w1 : tots wThread l ≤ 6 * l.length := tots_le fun x h => by have := hlr2 x h; unfold wThread; omega
                have w2 : tots wChan m ≤ 7 * m.length := tots_le fun x h => by have := hlc2 x h; unfold wChan; omega
                have w3 : tots wNote acc = 2 * acc.length := tots_const 2 acc
                exact ⟨by simp only; omega, by simp only; omega, by simp only; omega, fun x h => by have := hlr2 x h; omega, fun x h => by have := hlc2 x h; omega, by unfold wSource; simp only; omega⟩
              refine CA [] (specSourceBytes_ok p ⟨l, m, acc⟩ ⟨hp1, hp2, hp3⟩ hsz) ?_
              try simp only [go_sem, qA, qB, qC, qD, qE, qF, qG, qH]
              repeat refine K ?_
              have hrd : ∀ v, t.bad = v → rdS b t = [.sl .fz 1 (bys b), .int .i64 t.a, .bool (!v)] := fun v h => by unfold rdS; rw [h]
              have hse := strOf_eq (srcBytes_in ⟨l, m, acc⟩) hby
              unfold strOf at hse
              cases hbad : t.bad
              · have hrd := hrd false hbad
                cases hso : sourceOk p ⟨l, m, acc⟩
                · have hz0 : decide (((0 : Nat) : Int) = 0) = true := by decide
                  try simp only [go_sem, qA, qB, qC, qD, qE, qF, qG, qH, hrd, hso, hz0, Bool.not_false]
                  repeat refine K ?_
                  apply fin_tup (by simp)
                  · exact Sub.refl _
                  · simp [-List.drop_one, -gD, specOf, hsp, hso, threads_nil, chans_nil, notes_nil] <;> (first | rfl | exact ⟨rfl, rfl⟩ | exact ⟨rfl, rfl, rfl⟩ | skip)
                · have hpos := srcBytes_pos ⟨l, m, acc⟩
                  have hz : decide (((srcBytes ⟨l, m, acc⟩).length : Int) = 0) = false := by simp only [decide_eq_false_iff_not]; omega
                  by_cases he : srcBytes ⟨l, m, acc⟩ = b
                  · rw [decide_eq_true he] at hse
                    try simp only [go_sem, qA, qB, qC, qD, qE, qF, qG, qH, hrd, hso, hz, Bool.not_false, bytesOf_bys, hse, bys_drop, bys_take, List.drop_zero, List.take_length]
                    repeat refine K ?_
                    apply fin_tup (by simp)
                    · exact Sub.refl _
                    · simp [-List.drop_one, -gD, specOf, hsp, hbad, hso, he] <;> (first | rfl | exact ⟨rfl, rfl⟩ | exact ⟨rfl, rfl, rfl⟩ | skip)
                  · rw [decide_eq_false he] at hse
                    try simp only [go_sem, qA, qB, qC, qD, qE, qF, qG, qH, hrd, hso, hz, Bool.not_false, bytesOf_bys, hse, bys_drop, bys_take, List.drop_zero, List.take_length]
                    repeat refine K ?_
                    apply fin_tup (by simp)
                    · exact Sub.refl _
                    · simp [-List.drop_one, -gD, specOf, hsp, hbad, hso, he, threads_nil, chans_nil, notes_nil] <;> (first | rfl | exact ⟨rfl, rfl⟩ | exact ⟨rfl, rfl, rfl⟩ | skip)
              · have hrd := hrd true hbad
                try simp only [go_sem, qA, qB, qC, qD, qE, qF, qG, qH, hrd, Bool.not_true]
                repeat refine K ?_
                apply fin_tup (by simp)
                · exact Sub.refl _
                · simp [-List.drop_one, -gD, specOf, hsp, hbad, threads_nil, chans_nil, notes_nil] <;> (first | rfl | exact ⟨rfl, rfl⟩ | exact ⟨rfl, rfl, rfl⟩ | skip)


end Go.Sep
