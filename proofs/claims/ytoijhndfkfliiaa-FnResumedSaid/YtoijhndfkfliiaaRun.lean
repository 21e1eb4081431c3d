/- How the model's loads and stores run at cells that are known. -/
import Derived.Test.YtoijhndfkfliiaaExec
namespace Go.Sep
set_option linter.unusedVariables false
set_option linter.unusedSimpArgs false

theorem add_mk (b o j : Nat) : (⟨b, o, none⟩ : Addr).add j = ⟨b, o + j, none⟩ := by
  unfold Addr.add
  by_cases h : j = 0
  · simp [h]
  · simp [h]

theorem run_load_some {P : Program} {w : World} {a : Addr} {v : Value} (h : w.cell? a = some v) : (load a).run P w = .ok v w := by
  simp [run_load, h]

theorem run_loadCellsFrom {P : Program} {w : World} {b o : Nat} : ∀ (n i : Nat) (vs : List Value) (acc : Array Value), vs.length = n →
    (∀ j, j < n → w.cell? ⟨b, o + (i + j), none⟩ = vs[j]?) → (loadCellsFrom ⟨b, o, none⟩ i n acc).run P w = .ok (acc ++ vs.toArray) w
  | 0, i, vs, acc, hl, h => by
    have : vs = [] := List.length_eq_zero_iff.1 hl
    subst this
    simp [loadCellsFrom]
  | n + 1, i, [], acc, hl, h => by simp at hl
  | n + 1, i, v :: vs, acc, hl, h => by
    have h0 : w.cell? ⟨b, o + i, none⟩ = some v := by simpa using h 0 (by omega)
    simp only [loadCellsFrom, add_mk, Sem.run_bind, run_load_some h0, Result.andThen_ok]
    rw [run_loadCellsFrom n (i + 1) vs (acc.push v) (by simpa using hl) (fun j hj => by
      have := h (j + 1) (by omega)
      rw [show o + (i + 1 + j) = o + (i + (j + 1)) by omega]
      simpa using this)]
    simp

theorem run_loadCells {P : Program} {w : World} {b o n : Nat} {vs : List Value} (hl : vs.length = n) (h : ∀ j, j < n → w.cell? ⟨b, o + j, none⟩ = vs[j]?) :
    (loadCells ⟨b, o, none⟩ n).run P w = .ok vs.toArray w := by
  unfold loadCells
  rw [run_loadCellsFrom n 0 vs #[] hl (by simpa using h)]
  simp

/-- An array some of whose cells are set. -/
def arrSet (arr : Array Value) (o : Nat) : List Value → Array Value
  | [] => arr
  | v :: vs => arrSet (arr.setIfInBounds o v) (o + 1) vs

theorem arrSet_size (arr : Array Value) (o : Nat) (vs : List Value) : (arrSet arr o vs).size = arr.size := by
  induction vs generalizing arr o with
  | nil => rfl
  | cons v vs ih => simp [arrSet, ih]

theorem arrSet_other (arr : Array Value) (o : Nat) (vs : List Value) (k : Nat) (h : k < o ∨ o + vs.length ≤ k) : (arrSet arr o vs)[k]? = arr[k]? := by
  induction vs generalizing arr o with
  | nil => rfl
  | cons v vs ih =>
    simp only [arrSet]
    simp only [List.length_cons] at h
    rw [ih _ _ (by omega), Array.getElem?_setIfInBounds_ne (by omega)]

theorem arrSet_at (arr : Array Value) (o : Nat) (vs : List Value) (j : Nat) (hj : j < vs.length) (h : o + vs.length ≤ arr.size) : (arrSet arr o vs)[o + j]? = vs[j]? := by
  induction vs generalizing arr o j with
  | nil => simp at hj
  | cons v vs ih =>
    simp only [arrSet, List.length_cons] at h hj ⊢
    cases j with
    | zero =>
      rw [arrSet_other _ _ _ _ (by omega)]
      have : o < arr.size := by omega
      simp [this]
    | succ j =>
      rw [show o + (j + 1) = o + 1 + j by omega, ih _ _ j (by omega) (by simp; omega)]
      simp

/-- A world one of whose blocks is another row. -/
def World.setBlk (w : World) (b : Nat) (o : Obj) : World := { w with heap := w.heap.setIfInBounds b o }

theorem setBlk_size (w : World) (b : Nat) (o : Obj) : (World.setBlk w b o).heap.size = w.heap.size := by simp [World.setBlk]
theorem setBlk_other (w : World) (b c : Nat) (o : Obj) (h : b ≠ c) : (World.setBlk w b o).heap[c]? = w.heap[c]? := by
  simp [World.setBlk, Array.getElem?_setIfInBounds_ne h]
theorem setBlk_at (w : World) (b : Nat) (o : Obj) (h : b < w.heap.size) : (World.setBlk w b o).heap[b]? = some o := by
  simp [World.setBlk, h]

theorem setCell_blk {w : World} {b o : Nat} {arr : Array Value} {ty : TypeId} {fz : Nat × Nat} {v : Value} (h : w.heap[b]? = some (.cells arr ty fz)) :
    w.setCell ⟨b, o, none⟩ v = World.setBlk w b (.cells (arr.setIfInBounds o v) ty fz) := by
  have hb := (Array.getElem?_eq_some_iff.1 h).1
  have hv := (Array.getElem?_eq_some_iff.1 h).2
  unfold World.setCell World.setBlk
  congr 1
  apply Array.ext_getElem?
  intro i
  rw [Array.getElem?_modify]
  by_cases hi : b = i
  · subst hi
    simp [hb, hv]
  · simp [hi, Array.getElem?_setIfInBounds_ne hi]

theorem cell_blk {w : World} {b o : Nat} {arr : Array Value} {ty : TypeId} {fz : Nat × Nat} (h : w.heap[b]? = some (.cells arr ty fz)) : w.cell? ⟨b, o, none⟩ = arr[o]? := by
  simp [World.cell?, h]

theorem setBlk_setBlk (w : World) (b : Nat) (o o' : Obj) : World.setBlk (World.setBlk w b o) b o' = World.setBlk w b o' := by
  simp [World.setBlk]

theorem run_storeCells {P : Program} {b ty : Nat} : ∀ (vs : List Value) (w : World) (o i : Nat) (arr : Array Value), w.heap[b]? = some (.cells arr ty (0, 0)) → (∀ v ∈ vs, v.oneCell' = true) →
    o + i + vs.length ≤ arr.size → (storeCells ⟨b, o, none⟩ vs i).run P w = .ok () (World.setBlk w b (.cells (arrSet arr (o + i) vs) ty (0, 0)))
  | [], w, o, i, arr, hb, hv, hs => by
    have h1 := (Array.getElem?_eq_some_iff.1 hb).1
    have h2 := (Array.getElem?_eq_some_iff.1 hb).2
    have : World.setBlk w b (.cells (arrSet arr (o + i) []) ty (0, 0)) = w := by
      unfold World.setBlk arrSet
      congr 1
      apply Array.ext_getElem?
      intro k
      by_cases hk : b = k
      · subst hk; simp [h1, h2]
      · simp [Array.getElem?_setIfInBounds_ne hk]
    rw [this]
    simp [storeCells]
  | v :: vs, w, o, i, arr, hb, hv, hs => by
    simp only [List.length_cons] at hs
    have hc : w.cell? ⟨b, o + i, none⟩ = some (arr[o + i]'(by omega)) := by rw [cell_blk hb]; exact Array.getElem?_eq_getElem (by omega)
    have hf : w.frozen? ⟨b, o + i, none⟩ = false := by simp [World.frozen?, hb]
    have h1 := (Array.getElem?_eq_some_iff.1 hb).1
    unfold storeCells
    simp only [add_mk, Sem.run_bind]
    rw [run_store P w _ v .plain (hv v (by simp))]
    simp only [hc, hf, Bool.false_eq_true, if_false, Result.andThen_ok]
    rw [setCell_blk hb]
    have hb' : (World.setBlk w b (.cells (arr.setIfInBounds (o + i) v) ty (0, 0))).heap[b]? = some (.cells (arr.setIfInBounds (o + i) v) ty (0, 0)) := setBlk_at _ _ _ h1
    rw [run_storeCells vs _ o (i + 1) _ hb' (fun u hu => hv u (by simp [hu])) (by simp; omega)]
    rw [setBlk_setBlk]
    rfl

theorem run_newRow {P : Program} {w : World} (t : TypeId) (cs : Array Value) : (newRow t cs).run P w = .ok ⟨w.heap.size, 0, none⟩ (w.alloc (.cells cs t)) := by
  simp [newRow]

theorem run_underlying' {P : Program} {w : World} {t : TypeId} {d : TypeDesc} (h : P.underlying t = some d) : (underlying t).run P w = .ok d w := by
  simp [underlying, h]
theorem run_typeInfo' {P : Program} {w : World} {t : TypeId} {i : TypeInfo} (h : P.info? t = some i) : (typeInfo t).run P w = .ok i w := by
  simp [typeInfo, h]
theorem run_sizeOf' {P : Program} {w : World} {t : TypeId} {i : TypeInfo} (h : P.info? t = some i) : (sizeOf t).run P w = .ok i.size w := by
  simp [sizeOf, run_typeInfo' h]
theorem run_zeroValue' {P : Program} {w : World} {t : TypeId} {i : TypeInfo} {z : Value} (h : P.info? t = some i) (hz : i.zero = some z) : (zeroValue t).run P w = .ok z w := by
  simp [zeroValue, run_typeInfo' h, hz]

/-- Is a value of this type several cells? -/
def aggB (P : Program) (t : TypeId) : Option Bool := (P.underlying t).map fun | .struct _ | .array _ _ => true | _ => false

theorem run_isAgg {P : Program} {w : World} {t : TypeId} {ag : Bool} (h : aggB P t = some ag) : (isAgg t).run P w = .ok ag w := by
  unfold aggB at h
  cases hu : P.underlying t with
  | none => simp [hu] at h
  | some d =>
    simp [hu] at h
    subst h
    cases d <;> simp [isAgg, run_underlying' hu]

theorem run_loadVar {P : Program} {w : World} {t : TypeId} {ag : Bool} {i : TypeInfo} {b o : Nat} {vs : List Value} (h : aggB P t = some ag) (hi : P.info? t = some i)
    (h1 : ag = false → i.size = 1) (hl : vs.length = i.size) (hc : ∀ j, j < i.size → w.cell? ⟨b, o + j, none⟩ = vs[j]?) :
    (loadVar t ⟨b, o, none⟩).run P w = .ok (if ag then .agg vs.toArray else vs.getD 0 undef) w := by
  unfold loadVar
  simp only [Sem.run_bind, run_isAgg h, Result.andThen_ok]
  cases ag with
  | true => simp [run_sizeOf' hi, run_loadCells hl hc]
  | false =>
    have h0 := h1 rfl
    have hc0 : w.cell? ⟨b, o, none⟩ = vs[0]? := by simpa using hc 0 (by omega)
    have : 0 < vs.length := by omega
    rw [List.getElem?_eq_getElem this] at hc0
    simp [run_load, hc0, this]

theorem run_storeVar {P : Program} {w : World} {t : TypeId} {i : TypeInfo} {b o : Nat} {v : Value} {arr : Array Value} {ty : TypeId} (hi : P.info? t = some i) (hl : v.cells.size = i.size)
    (hb : w.heap[b]? = some (.cells arr ty (0, 0))) (hv : ∀ u ∈ v.cells.toList, u.oneCell' = true) (hs : o + i.size ≤ arr.size) :
    (storeVar t ⟨b, o, none⟩ v).run P w = .ok () (World.setBlk w b (.cells (arrSet arr o v.cells.toList) ty (0, 0))) := by
  unfold storeVar
  simp only [Sem.run_bind, run_sizeOf' hi, Result.andThen_ok]
  rw [if_neg (by simpa using hl)]
  rw [run_storeCells v.cells.toList w o 0 arr hb hv (by simp; omega)]
  simp

end Go.Sep
