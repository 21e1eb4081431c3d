/- Contracts of functions. -/
import Derived.Test.YtjbknbgdfhihcaaGreatUW0
import Derived.Test.YtjbknbgdfhihcaaGreatUN2
namespace Go.Sep
open Go.Proofs
set_option linter.unusedSimpArgs false
set_option linter.unusedVariables false
set_option maxRecDepth 100000
theorem emit_size {caps : List Int} {x : Ins} {f : Int} {starts : List Int} (h : insOk x starts.length caps.length = true) (hb : within x.op 5 9 = true → ¬ base caps x.n < 0) : ((emit caps x f starts).length : Int) = emitSize x := by
 have ho := (insOk_op h).1
 unfold emit emitSize
 rw [if_pos h]
 split
 ·rename_i hw
  rw [if_neg (hb hw)]
  rw [within_iff] at hw
  have hc : x.op = 5 ∨ x.op = 6 ∨ x.op = 7 ∨ x.op = 8 ∨ x.op = 9 := by omega
  rcases hc with hc | hc | hc | hc | hc <;> simp [hc, lockL, sendL, takeL, closeL, shutL, letL]
 ·rename_i hw
  have hw : ¬ (5 ≤ x.op ∧ x.op ≤ 9) := fun e => hw (within_iff.2 e)
  rw [if_neg (by omega), if_neg (by omega), if_neg (by omega), if_neg (by omega), if_neg (by omega), ho]
  simp [numb]
theorem emit_one {caps : List Int} {x : Ins} {f : Int} {starts : List Int} {j : Nat} (h : insOk x starts.length caps.length = true) (h8 : ((emit caps x f starts).getD j default).op = 8) : emitSize x ≠ 1 := by
 have ho := (insOk_op h).1
 unfold emit at h8
 rw [if_pos h] at h8
 unfold emitSize
 split at h8
 ·rename_i hw
  rw [within_iff] at hw
  have hc : x.op = 5 ∨ x.op = 6 ∨ x.op = 7 ∨ x.op = 8 ∨ x.op = 9 := by omega
  rcases hc with hc | hc | hc | hc | hc <;> simp [hc]
 ·exfalso
  cases j with
  | zero =>
   simp only [List.getD_cons_zero] at h8
   unfold single at h8
   repeat' split at h8
   all_goals (simp at h8)
  | succ j =>
   simp [List.getD_eq_getElem?_getD] at h8
   exact absurd h8 (by decide)
theorem body_ins {b : List Ins} {n : Nat} (h : bodyOk b n = true) (i : Nat) (hi : i < b.length) : insOk (b.getD i default) b.length n = true := by
 unfold bodyOk at h
 simp only [Bool.and_eq_true, List.all_eq_true] at h
 exact h.1.2 _ (qA9 b i default hi)
theorem lie_base {caps : List Int} (hl : lieOk caps = true) {n : Int} (h : 0 ≤ n ∧ n < caps.length) : ¬ base caps n < 0 := by
 unfold base
 have hw : within n 0 ((caps.length : Int) - 1) = true := by rw [within_iff]; omega
 rw [hl, hw]
 unfold lieOk at hl
 simp only [Bool.and_eq_true] at hl
 have := qCn hl.1 n.toNat
 simp only [Bool.and_self, if_true]
 omega
theorem emit_at {caps : List Int} {b : List Ins} (hb : bodyOk b caps.length = true) (hl : lieOk caps = true) (i : Nat) (hi : i < b.length) (f : Int) : ((emit caps (b.getD i default) f (startsOf b)).length : Int) = emitSize (b.getD i default) := by
 have h := body_ins hb i hi
 refine emit_size (by rw [startsOf, qAw]; exact h) fun hw => lie_base hl ?_
 exact insOk_chan h hw
theorem compN_size {caps : List Int} {b : List Ins} (hb : bodyOk b caps.length = true) (hl : lieOk caps = true) : ∀ i, i ≤ b.length → ((compN caps b i).length : Int) = szB (b.take i)
 | 0, _ => by simp [compN, szB]
 | i + 1, hi => by
  have := compN_size hb hl i (by omega)
  have := emit_at hb hl i (by omega) (szB (b.take i))
  rw [szB_take b i (by omega)]
  simp only [compN, List.length_append]
  omega
theorem compN_at {caps : List Int} {b : List Ins} (hb : bodyOk b caps.length = true) (hl : lieOk caps = true) : ∀ (n : Nat), n ≤ b.length → ∀ at_ : Nat, at_ < (compN caps b n).length →
  ∃ i, i < n ∧ szB (b.take i) ≤ at_ ∧ (at_ : Int) < szB (b.take (i + 1)) ∧ (((compN caps b n).getD at_ default).op = 8 → emitSize (b.getD i default) ≠ 1)
 | 0, _, at_, h => by simp [compN] at h
 | n + 1, hn, at_, h => by
  by_cases hc : at_ < (compN caps b n).length
  ·obtain ⟨i, h1, h2, h3, h4⟩ := compN_at hb hl n (by omega) at_ hc
   refine ⟨i, by omega, h2, h3, fun h8 => h4 ?_⟩
   rw [← h8, compN, List.getD_eq_getElem?_getD, List.getD_eq_getElem?_getD, List.getElem?_append_left hc]
  ·have hs := compN_size hb hl n (by omega)
   have he := emit_at hb hl n (by omega) (szB (b.take n))
   have hz := szB_take b n (by omega)
   simp only [compN, List.length_append] at h
   refine ⟨n, by omega, by omega, by omega, fun h8 => ?_⟩
   rw [compN, List.getD_eq_getElem?_getD, List.getElem?_append_right (by omega), ← List.getD_eq_getElem?_getD] at h8
   exact emit_one (by rw [startsOf, qAw]; exact body_ins hb n (by omega)) h8
theorem placeAt_in : ∀ (b : List Ins) (off k at_ : Int) (i : Nat), i < b.length → off + szB (b.take i) ≤ at_ → at_ < off + szB (b.take (i + 1)) → (placeAt b off k at_).1 = k + i
 | [], _, _, _, i, h, _, _ => by simp at h
 | x :: l, off, k, at_, 0, _, h1, h2 => by
  simp only [List.take_zero, szB, List.take_succ_cons] at h1 h2
  unfold placeAt
  rw [if_pos (by omega)]
  simp
 | x :: l, off, k, at_, i + 1, h, h1, h2 => by
  simp only [List.take_succ_cons, szB] at h1 h2
  have hl := (szB_le (l.take i)).1
  unfold placeAt
  rw [if_neg (by omega)]
  rw [placeAt_in l (off + emitSize x) (k + 1) at_ i (by simpa using h) (by omega) (by omega)]
  push_cast
  omega
theorem comp_at {caps : List Int} {b : List Ins} (hb : bodyOk b caps.length = true) (hl : lieOk caps = true) {at_ : Int} (h0 : 0 ≤ at_) (h1 : at_ < ((comp caps b).length : Int)) :
  0 ≤ (placeAt b 0 0 at_).1 ∧ (placeAt b 0 0 at_).1.toNat < b.length ∧ (((comp caps b).getD at_.toNat default).op = 8 → emitSize (b.getD (placeAt b 0 0 at_).1.toNat default) ≠ 1) := by
 obtain ⟨i, g1, g2, g3, g4⟩ := compN_at hb hl b.length (Nat.le_refl _) at_.toNat (by unfold comp at h1; omega)
 have hp := placeAt_in b 0 0 at_ i g1 (by omega) (by omega)
 rw [hp]
 have e : ((0 : Int) + (i : Int)).toNat = i := by omega
 rw [e]
 exact ⟨by omega, g1, g4⟩
def commitsS (p : Prog) (s : Step) (regs : List Int) (who at_ : Int) : Bool :=
 if s.op = 8 then decide (regs.getD s.r.toNat 0 = 0)
 else decide (0 ≤ (placeOf p who at_).1) && decide (emitSize ((p.bods.getD who.toNat []).getD (placeOf p who at_).1.toNat default) = 1)
theorem commits_eq {p : Prog} (hp : progOk p = true) (hl : lieOk p.caps = true) {i : Nat} (hi : i < p.bods.length) {at_ : Int} (h0 : 0 ≤ at_) (h1 : at_ < ((comp p.caps (p.bods.getD i [])).length : Int)) {regs : List Int} (hr : regs.length = 8)
  (hs : within ((comp p.caps (p.bods.getD i [])).getD at_.toNat default).r 0 7 = true) :
  commitsI p ((comp p.caps (p.bods.getD i [])).getD at_.toNat default) regs i at_ = commitsS p ((comp p.caps (p.bods.getD i [])).getD at_.toNat default) regs i at_ := by
 have hb := (progOk_caps hp).2.2.2.2 _ (qA9 p.bods i [] hi)
 obtain ⟨a1, a2, a3⟩ := comp_at hb hl h0 h1
 have hpl : placeOf p i at_ = placeAt (p.bods.getD i []) 0 0 at_ := by
  unfold placeOf
  have hw : within (i : Int) 0 ((p.bods.length : Int) - 1) = true := by rw [within_iff]; omega
  rw [hp, hw]
  rfl
 unfold commitsI commitsS
 rw [hpl]
 generalize (comp p.caps (p.bods.getD i [])).getD at_.toNat default = s at *
 simp only [Int.toNat_natCast]
 have d1 : decide ((i : Int) < (p.bods.length : Int)) = true := by simp; exact hi
 have d2 : decide (0 ≤ (placeAt (p.bods.getD i []) 0 0 at_).1) = true := by simpa using a1
 have d3 : within s.r 0 ((regs.length : Int) - 1) = true := by rw [hr]; exact hs
 rw [d1, d2, d3]
 by_cases h8 : s.op = 8
 ·have h9 : decide (emitSize ((p.bods.getD i []).getD (placeAt (p.bods.getD i []) 0 0 at_).1.toNat default) = 1) = false := by simpa [-List.getD_eq_getElem?_getD] using a3 h8
  rw [h9]
  simp [h8]
 ·simp [h8]
def worder (p : Prog) : Machine → List Pick → List Int
 | _, [] => []
 | m, x :: l => (if did p m x then [x.who] else []) ++ worder p (mstep m x).1 l
theorem worder_snoc (p : Prog) : ∀ (m : Machine) (l : List Pick) (x : Pick), worder p m (l ++ [x]) = worder p m l ++ (if did p (mrun m l) x then [x.who] else [])
 | _, [], _ => by simp only [worder, mrun, List.nil_append, List.append_nil]; rfl
 | m, y :: l, x => by simp only [List.cons_append, worder, mrun, worder_snoc p _ l x, List.append_assoc]; rfl
theorem worder_len (p : Prog) : ∀ (m : Machine) (l : List Pick), (worder p m l).length ≤ l.length
 | _, [] => by simp [worder]
 | m, y :: l => by
  have := worder_len p (mstep m y).1 l
  simp only [worder, List.length_append, List.length_cons]
  split <;> simp <;> omega
end Go.Sep
