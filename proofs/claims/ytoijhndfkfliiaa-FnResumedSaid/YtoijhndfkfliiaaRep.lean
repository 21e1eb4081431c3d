/- Rows of whole numbers; small laws that all walks use. -/
import Derived.Test.YtoijhndfkfliiaaLend
namespace Go.Sep
set_option linter.unusedVariables false
set_option linter.unusedSimpArgs false

theorem wrap64 {n : Int} (h0 : -(2 ^ 63) ≤ n) (h1 : n < 2 ^ 63) : IntKind.i64.wrap n = n := by
  unfold IntKind.wrap
  simp only [IntKind.bits, IntKind.signed]
  by_cases h : 0 ≤ n
  · have : n % (2 ^ 64 : Int) = n := Int.emod_eq_of_lt h (by omega)
    simp only [this]
    rw [if_neg]
    simp
    omega
  · have : n % (2 ^ 64 : Int) = n + 2 ^ 64 := by
      rw [← Int.add_emod_right n (2 ^ 64)]
      exact Int.emod_eq_of_lt (by omega) (by omega)
    simp only [this]
    rw [if_pos]
    · omega
    · simp
      omega

theorem wrap_succ {i : Nat} (h : i < 2 ^ 62) : IntKind.i64.wrap ((i : Int) + 1) = ((i + 1 : Nat) : Int) := by rw [wrap64 (by omega) (by omega)]; omega

theorem nf_app (A : Nat → Prop) (l m : List (List AV)) : bndr A (l ++ m) ↔ bndr A l ∧ bndr A m := by simp [bndr_iff, or_imp, forall_and]
theorem nf_sl (A : Nat → Prop) (m : Mode) (sz : Nat) (r : List (List AV)) : bnd A (.sl m sz r) ↔ bndr A r := by cases m <;> rfl
theorem nf_int (A : Nat → Prop) (k : IntKind) (n : Int) : bnd A (.int k n) ↔ True := Iff.rfl
theorem nf_bool (A : Nat → Prop) (b : Bool) : bnd A (.bool b) ↔ True := Iff.rfl
theorem nf_str (A : Nat → Prop) (s : ByteArray) : bnd A (.str s) ↔ True := Iff.rfl

/-- Whole numbers, one in a cell. -/
def ints (l : List Int) : List (List AV) := l.map fun n => [.int .i64 n]

theorem ints_nil : ints [] = [] := rfl
theorem ints_length (l : List Int) : (ints l).length = l.length := by simp [ints]
theorem ints_append (l m : List Int) : ints l ++ ints m = ints (l ++ m) := by simp [ints]
theorem ints_one (n : Int) : [[AV.int .i64 n]] = ints [n] := rfl
theorem ints_cons (n : Int) (l : List Int) : [AV.int .i64 n] :: ints l = ints (n :: l) := rfl
theorem ints_drop (l : List Int) (n : Nat) : (ints l).drop n = ints (l.drop n) := by simp [ints]
theorem ints_take (l : List Int) (n : Nat) : (ints l).take n = ints (l.take n) := by simp [ints]
theorem ints_rep (n : Nat) (m : Int) : List.replicate n [AV.int .i64 m] = ints (List.replicate n m) := by simp [ints]
theorem ints_set (l : List Int) (i : Nat) (m : Int) : (ints l).set i [.int .i64 m] = ints (l.set i m) := by simp [ints]
theorem ints_getD (l : List Int) (i : Nat) (h : i < l.length) : (ints l).getD i [] = [.int .i64 (l.getD i 0)] := by simp [ints, List.getD_eq_getElem?_getD, h]
theorem ints_bnd (A : Nat → Prop) (l : List Int) : bndr A (ints l) ↔ True := by
  simp only [iff_true]
  induction l with
  | nil => trivial
  | cons n l ih => exact ⟨⟨trivial, trivial⟩, ih⟩
theorem ints_nb (l : List Int) : nbr (ints l) ↔ True := by
  simp only [iff_true]
  induction l with
  | nil => trivial
  | cons n l ih => exact ⟨⟨trivial, trivial⟩, ih⟩
theorem ints_bw : ∀ (l : List Int), bwR (ints l) = ints l
  | [] => rfl
  | n :: l => by
    have := ints_bw l
    simp only [ints, List.map_cons, bwR, bwL, bwC] at this ⊢
    rw [this]
theorem ints_free (l : List Int) : free (ints l) ↔ True := by
  simp only [iff_true]
  intro r hr c hc
  simp only [ints, List.mem_map] at hr
  obtain ⟨n, _, rfl⟩ := hr
  simp only [List.mem_singleton] at hc
  subst hc
  rfl

theorem hb_nil (nx : Nat) : HB [] nx ↔ True := by
  simp only [iff_true]
  intro n r h
  simp [look] at h
theorem hb_cons (n : Nat) (r : Row) (h : Heap) (nx : Nat) (hh : HB h nx) (hn : n < nx) (hr : bndr (· < nx) r.2) : HB ((n, r) :: h) nx := by
  intro m s hs
  simp only [look] at hs
  split at hs
  · rename_i he
    simp only [Option.some.injEq] at hs
    subst hs he
    exact ⟨hn, hr⟩
  · exact hh m s hs

theorem nil_bind {α β : Type} (f : α → Option β) : (none : Option α).bind f = none := rfl

theorem drop_all {α : Type} (l : List α) (m : Nat) : (l.drop m).take (l.length - m) = l.drop m := List.take_of_length_le (by simp)

/-- Short words for operations, as the printed functions use them. -/
def xv (n k : Nat) : MOper := ⟨some n, .mv (.t k), none⟩
def xo (n : Nat) (p : MOp) : MOper := ⟨some n, p, none⟩
def xg (n : Nat) (p : MOp) (k : Nat) (b : Bool) : MOper := ⟨some n, p, some (k, b)⟩
def xr (l : List MOper) : MCode := .reg false l
def xi (n : Int) : Arg := .c (.int .i64 n)
def xz : AV := .int .i64 0

end Go.Sep
