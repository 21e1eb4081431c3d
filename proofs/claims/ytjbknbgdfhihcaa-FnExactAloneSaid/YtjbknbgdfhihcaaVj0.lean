/- Contracts of functions. -/
import Derived.Test.YtjbknbgdfhihcaaVe0
import Derived.Test.YtjbknbgdfhihcaaVf0
namespace Go.Sep
open Go.Proofs
set_option linter.unusedSimpArgs false
set_option linter.unusedVariables false
set_option maxRecDepth 100000
theorem szL_nonneg {k : Nat} {n : Int} (h : ¬ szL k n < 0) : szL k n = n - k := by
 unfold szL at h ⊢
 split
 ·rename_i h4; rw [if_pos h4] at h; simp at h
 ·rfl
theorem fill_set {α : Type} (l : List α) (d e : α) (i : Nat) (h : i < l.length) : (l.take i ++ List.replicate (l.length - i) e).set i (l.getD i d) = l.take (i + 1) ++ List.replicate (l.length - (i + 1)) e := by
 have h1 : l.length - i = (l.length - (i + 1)) + 1 := by omega
 rw [List.set_append_right _ _ (by simp; omega), List.length_take, Nat.min_eq_left (by omega), Nat.sub_self, h1, List.replicate_succ, List.set_cons_zero, List.take_succ_eq_append_getElem h, List.append_assoc]
 congr 1
 simp [List.getD_eq_getElem?_getD, h]
theorem fill_length {α : Type} (l : List α) (e : α) (i : Nat) (h : i ≤ l.length) : (l.take i ++ List.replicate (l.length - i) e).length = l.length := by simp; omega
theorem take_snoc {α : Type} (l : List α) (d : α) (i : Nat) (h : i < l.length) : l.take (i + 1) = l.take i ++ [l.getD i d] := by
 rw [List.take_succ_eq_append_getElem h]
 simp [List.getD_eq_getElem?_getD, h]
end Go.Sep
