/- Rows by name: how they lie in the model's memory, and what a step that touches some of them leaves of the others. -/
import Derived.Test.YtoijhndfkfliiaaCore
namespace Go.Sep
set_option linter.unusedVariables false
set_option linter.unusedSimpArgs false

theorem RVs_append {e : Env} : ∀ (xs ys : List AV) {cs : List Value} {L : List Nat},
    RVs e (xs ++ ys) cs L ↔ ∃ c1 c2 L1 L2, cs = c1 ++ c2 ∧ L = L1 ++ L2 ∧ RVs e xs c1 L1 ∧ RVs e ys c2 L2
  | [], ys, cs, L => by
    simp only [List.nil_append, RVs]
    constructor
    · intro h; exact ⟨[], cs, [], L, rfl, rfl, ⟨rfl, rfl⟩, h⟩
    · rintro ⟨c1, c2, L1, L2, rfl, rfl, ⟨rfl, rfl⟩, h⟩; exact h
  | x :: xs, ys, cs, L => by
    simp only [List.cons_append, RVs]
    constructor
    · rintro ⟨v, vs', L1, L2, rfl, h2, h3, rfl⟩
      obtain ⟨c1, c2, L3, L4, rfl, rfl, h4, h5⟩ := (RVs_append xs ys).1 h3
      exact ⟨v :: c1, c2, L1 ++ L3, L4, by simp, by simp, ⟨v, c1, L1, L3, rfl, h2, h4, rfl⟩, h5⟩
    · rintro ⟨c1, c2, L1, L2, rfl, rfl, ⟨v, vs', L3, L4, rfl, h2, h3, rfl⟩, h5⟩
      exact ⟨v, vs' ++ c2, L3, L4 ++ L2, by simp, h2, (RVs_append xs ys).2 ⟨vs', c2, L4, L2, rfl, rfl, h3, h5⟩, by simp⟩

theorem RVs_length {e : Env} : ∀ {xs : List AV} {cs : List Value} {L : List Nat}, RVs e xs cs L → cs.length = xs.length
  | [], _, _, h => by simp only [RVs] at h; simp [h.1]
  | x :: xs, _, _, h => by
    simp only [RVs] at h
    obtain ⟨v, vs', L1, L2, rfl, h2, h3, rfl⟩ := h
    simp [RVs_length h3]

/-- One of several values. -/
theorem RVs_get {e : Env} {xs : List AV} {cs : List Value} {L : List Nat} (h : RVs e xs cs L) (j : Nat) (hj : j < xs.length) :
    ∃ v L1 L2 L3, cs[j]? = some v ∧ RV e xs[j] v L2 ∧ L = L1 ++ (L2 ++ L3) := by
  have hs : xs = xs.take j ++ (xs[j] :: xs.drop (j + 1)) := by simp
  rw [hs] at h
  obtain ⟨c1, c2, L1, L2, rfl, rfl, h4, h5⟩ := (RVs_append _ _).1 h
  simp only [RVs] at h5
  obtain ⟨v, vs', L3, L4, rfl, h6, h7, rfl⟩ := h5
  have hl := RVs_length h4
  simp [Nat.min_eq_left (Nat.le_of_lt hj)] at hl
  refine ⟨v, L1, L3, L4, ?_, h6, rfl⟩
  rw [List.getElem?_append_right (by omega), hl]
  simp

theorem RVs_nil_get {e : Env} {xs : List AV} {cs : List Value} (h : RVs e xs cs []) (j : Nat) (hj : j < xs.length) :
    ∃ v, cs[j]? = some v ∧ RV e xs[j] v [] := by
  obtain ⟨v, L1, L2, L3, h1, h2, h3⟩ := RVs_get h j hj
  have : L2 = [] := by
    have := h3.symm
    simp at this
    exact this.2.1
  subst this
  exact ⟨v, h1, h2⟩

theorem RRows_append {e : Env} {W : World} {b sz : Nat} : ∀ (xs ys : List (List AV)) {o : Nat} {L : List Nat},
    RRows e W b o sz (xs ++ ys) L ↔ ∃ L1 L2, RRows e W b o sz xs L1 ∧ RRows e W b (o + xs.length * sz) sz ys L2 ∧ L = L1 ++ L2
  | [], ys, o, L => by
    simp only [List.nil_append, RRows, List.length_nil, Nat.zero_mul, Nat.add_zero]
    constructor
    · intro h; exact ⟨[], L, rfl, h, rfl⟩
    · rintro ⟨L1, L2, rfl, h, rfl⟩; exact h
  | x :: xs, ys, o, L => by
    simp only [List.cons_append, RRows]
    have ho : o + sz + xs.length * sz = o + (x :: xs).length * sz := by simp [Nat.add_mul]; omega
    constructor
    · rintro ⟨vs, L1, L2, h1, h2, h3, h4, h5, rfl⟩
      obtain ⟨L3, L4, h6, h7, rfl⟩ := (RRows_append xs ys).1 h5
      rw [ho] at h7
      exact ⟨L1 ++ L3, L4, ⟨vs, L1, L3, h1, h2, h3, h4, h6, rfl⟩, h7, by simp⟩
    · rintro ⟨L1, L2, ⟨vs, L3, L4, h1, h2, h3, h4, h6, rfl⟩, h7, rfl⟩
      rw [← ho] at h7
      exact ⟨vs, L3, L4 ++ L2, h1, h2, h3, h4, (RRows_append xs ys).2 ⟨L4, L2, h6, h7, rfl⟩, by simp⟩

theorem RRows_split {e : Env} {W : World} {b o sz : Nat} {xs : List (List AV)} {L : List Nat} (i : Nat) (hi : i < xs.length) (h : RRows e W b o sz xs L) :
    ∃ vs L1 L2 L3, (xs[i].length = sz ∧ xs[i].all cellOk = true) ∧ vs.length = sz ∧ (∀ j, j < sz → W.cell? ⟨b, o + i * sz + j, none⟩ = vs[j]?) ∧ RVs e xs[i] vs L2 ∧
      RRows e W b o sz (xs.take i) L1 ∧ RRows e W b (o + (i + 1) * sz) sz (xs.drop (i + 1)) L3 ∧ L = L1 ++ (L2 ++ L3) := by
  have hs : xs = xs.take i ++ (xs[i] :: xs.drop (i + 1)) := by simp
  rw [hs] at h
  obtain ⟨L1, L2, h1, h2, rfl⟩ := (RRows_append _ _).1 h
  simp only [RRows, List.length_take, Nat.min_eq_left (Nat.le_of_lt hi)] at h2
  obtain ⟨vs, L3, L4, h3, h4, h5, h6, h7, rfl⟩ := h2
  refine ⟨vs, L1, L3, L4, h3, h4, h5, h6, h1, ?_, rfl⟩
  rw [show o + (i + 1) * sz = o + i * sz + sz by rw [Nat.add_mul]; omega]
  exact h7

theorem RRows_join {e : Env} {W : World} {b o sz : Nat} {xs : List (List AV)} {r : List AV} {vs : List Value} {L1 L2 L3 : List Nat} (i : Nat) (hi : i < xs.length)
    (h1 : r.length = sz ∧ r.all cellOk = true) (h2 : vs.length = sz) (h3 : ∀ j, j < sz → W.cell? ⟨b, o + i * sz + j, none⟩ = vs[j]?) (h4 : RVs e r vs L2)
    (h5 : RRows e W b o sz (xs.take i) L1) (h6 : RRows e W b (o + (i + 1) * sz) sz (xs.drop (i + 1)) L3) : RRows e W b o sz (xs.set i r) (L1 ++ (L2 ++ L3)) := by
  have hs : xs.set i r = xs.take i ++ (r :: xs.drop (i + 1)) := by rw [List.set_eq_take_append_cons_drop, if_pos hi]
  rw [hs]
  refine (RRows_append _ _).2 ⟨L1, L2 ++ L3, h5, ?_, rfl⟩
  simp only [RRows, List.length_take, Nat.min_eq_left (Nat.le_of_lt hi)]
  refine ⟨vs, L2, L3, h1, h2, h3, h4, ?_, rfl⟩
  rw [show o + (i + 1) * sz = o + i * sz + sz by rw [Nat.add_mul]; omega] at h6
  exact h6

/-- The cells of other places do not matter. -/
theorem RRows_cells {e : Env} {W W' : World} {b sz : Nat} : ∀ (xs : List (List AV)) {o : Nat} {L : List Nat}, (∀ j, o ≤ j → j < o + xs.length * sz → W'.cell? ⟨b, j, none⟩ = W.cell? ⟨b, j, none⟩) →
    RRows e W b o sz xs L → RRows e W' b o sz xs L
  | [], _, _, _, h => by simpa only [RRows] using h
  | x :: xs, o, L, hc, h => by
    simp only [RRows] at h ⊢
    obtain ⟨vs, L1, L2, h1, h2, h3, h4, h5, h6⟩ := h
    have hm : (x :: xs).length * sz = sz + xs.length * sz := by simp [Nat.add_mul]; omega
    rw [hm] at hc
    exact ⟨vs, L1, L2, h1, h2, fun j hj => by rw [hc _ (by omega) (by omega)]; exact h3 j hj, h4, RRows_cells xs (fun j a c => hc j (by omega) (by omega)) h5, h6⟩

def RowSp (e : Env) (s : Spot) (row : Row) (L : List Nat) : Prop :=
  match s with
  | .dead => False
  | .nilp => row.2 = [] ∧ L = []
  | .at p => p.sz = row.1 ∧ OwnBlk e.w p row.2.length ∧ ∃ Lr, RRows e e.w p.block p.off p.sz row.2 Lr ∧ L = p.block :: Lr

def look : Heap → Nat → Option Row
  | [], _ => none
  | (m, r) :: h, n => if n = m then some r else look h n

/-- A named row as it lies in memory; L: its block, and those that it owns besides. -/
def RowAt (e : Env) (nm : Nat) (row : Row) (L : List Nat) : Prop := RowSp e (e.φ nm) row L

theorem RowAt.keep {e e' : Env} {A : Nat → Prop} {nm : Nat} {row : Row} {L : List Nat} (k : Keeps e e' A L) (hφ : e'.φ nm = e.φ nm) (hb : bndr A row.2) (h : RowAt e nm row L) : RowAt e' nm row L := by
  unfold RowAt RowSp at h ⊢
  rw [hφ]
  cases hp : e.φ nm with
  | dead => rw [hp] at h; exact h
  | nilp => rw [hp] at h; exact h
  | «at» p =>
    rw [hp] at h
    obtain ⟨h0, h1, Lr, h2, rfl⟩ := h
    exact ⟨h0, h1.keep (k.own _ (by simp)), Lr, RRows_keep row.2 (k.sub (by simp +contextual)) hb (fun _ o => cell_of_heap (k.own _ (by simp)) o) h2, rfl⟩

/-- The rows of H lie in memory, each with blocks of its own. -/
structure RH (e : Env) (H : Nat → Option Row) (Lf : Nat → List Nat) : Prop where
  row : ∀ nm row, H nm = some row → RowAt e nm row (Lf nm)
  nodup : ∀ nm, H nm ≠ none → (Lf nm).Nodup
  blk : ∀ nm, H nm ≠ none → ∀ b ∈ Lf nm, b < e.w.heap.size ∧ ¬ e.Fr b ∧ ¬ e.Bo b
  dis : ∀ n m, H n ≠ none → H m ≠ none → n ≠ m → ∀ b ∈ Lf n, b ∉ Lf m
  dead : ∀ nm, H nm = none → e.φ nm = .dead

end Go.Sep
