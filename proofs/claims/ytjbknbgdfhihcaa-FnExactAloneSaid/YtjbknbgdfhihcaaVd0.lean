/- Contracts of functions. -/
import Derived.Test.YtjbknbgdfhihcaaVa0
namespace Go.Sep
open Go.Proofs
set_option linter.unusedSimpArgs false
set_option linter.unusedVariables false
set_option maxRecDepth 100000
theorem all_step {α : Type} {l : List α} {p : α → Bool} {d : α} {i : Nat} (h : (l.take i).all p = true) (hi : i < l.length) (hp : p (l.getD i d) = true) : (l.take (i + 1)).all p = true := by
 rw [List.take_succ_eq_append_getElem hi, List.all_append, h]
 have h1 : l.getD i d = l[i] := by simp [List.getD_eq_getElem?_getD, hi]
 rw [h1] at hp
 simp [hp]
theorem all_stop {α : Type} {l : List α} {p : α → Bool} {d : α} {i : Nat} (hi : i < l.length) (hp : p (l.getD i d) = false) : l.all p = false := by
 have h1 : l.getD i d = l[i] := by simp [List.getD_eq_getElem?_getD, hi]
 rw [h1] at hp
 cases h : l.all p with
 | false => rfl
 | true => rw [List.all_eq_true.1 h l[i] (List.getElem_mem hi)] at hp; exact absurd hp (by decide)
theorem all_end {α : Type} {l : List α} {p : α → Bool} {i : Nat} (h : (l.take i).all p = true) (hi : ¬ (i : Int) < l.length) : l.all p = true := by
 rw [List.take_of_length_le (by omega)] at h
 exact h
def capsOk (l : List Int) : Bool := l.all fun c => within c 1 4
end Go.Sep
