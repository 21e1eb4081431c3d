/- The executor of symbolic states: the texts New New2 Mem Store, one after the other. No condition. -/
import Derived.Test.YtjbknbgdfhihcaaGreatOps4
/- A new row: what an operation that makes one leaves. -/
namespace Go.Sep
set_option linter.unusedVariables false
set_option linter.unusedSimpArgs false

/-- Values that are rows, one behind the other. -/
def FlatV (e : Env) (sz : Nat) : List (List AV) → List Value → List Nat → Prop
  | [], vs, L => vs = [] ∧ L = []
  | r :: rs, vs, L => ∃ v1 v2 L1 L2, vs = v1 ++ v2 ∧ (r.length = sz ∧ r.all cellOk = true) ∧ RVs e r v1 L1 ∧ FlatV e sz rs v2 L2 ∧ L = L1 ++ L2

theorem FlatV_length {e : Env} {sz : Nat} : ∀ {rows : List (List AV)} {vs : List Value} {L : List Nat}, FlatV e sz rows vs L → vs.length = rows.length * sz
  | [], _, _, h => by simp only [FlatV] at h; simp [h.1]
  | r :: rs, _, _, h => by
    simp only [FlatV] at h
    obtain ⟨v1, v2, L1, L2, rfl, h1, h2, h3, rfl⟩ := h
    rw [List.length_append, RVs_length h2, FlatV_length h3, h1.1, List.length_cons, Nat.add_mul]
    omega

theorem FlatV_append {e : Env} {sz : Nat} : ∀ {xs ys : List (List AV)} {vs us : List Value} {L M : List Nat}, FlatV e sz xs vs L → FlatV e sz ys us M → FlatV e sz (xs ++ ys) (vs ++ us) (L ++ M)
  | [], ys, vs, us, L, M, h1, h2 => by simp only [FlatV] at h1; obtain ⟨rfl, rfl⟩ := h1; exact h2
  | r :: rs, ys, vs, us, L, M, h1, h2 => by
    simp only [FlatV] at h1
    obtain ⟨v1, v2, L1, L2, rfl, g1, g2, g3, rfl⟩ := h1
    simp only [List.cons_append, FlatV]
    exact ⟨v1, v2 ++ us, L1, L2 ++ M, by simp, g1, g2, FlatV_append g3 h2, by simp⟩

theorem FlatV_keep {e e' : Env} {A : Nat → Prop} {sz : Nat} : ∀ {rows : List (List AV)} {vs : List Value} {L : List Nat}, Keeps e e' A L → bndr A rows → FlatV e sz rows vs L → FlatV e' sz rows vs L
  | [], _, _, _, _, h => h
  | r :: rs, _, _, k, hb, h => by
    simp only [FlatV] at h ⊢
    obtain ⟨v1, v2, L1, L2, rfl, g1, g2, g3, rfl⟩ := h
    exact ⟨v1, v2, L1, L2, rfl, g1, RVs_keep r (k.sub (by simp +contextual)) hb.1 g2, FlatV_keep (k.sub (by simp +contextual)) hb.2 g3, rfl⟩

theorem FlatV_rows {e : Env} {W : World} {b sz : Nat} : ∀ {rows : List (List AV)} {vs : List Value} {L : List Nat} {o : Nat}, FlatV e sz rows vs L → (∀ j, j < vs.length → W.cell? ⟨b, o + j, none⟩ = vs[j]?) → RRows e W b o sz rows L
  | [], _, _, _, h, _ => by simp only [FlatV] at h; simp only [RRows]; exact h.2
  | r :: rs, _, _, o, h, hc => by
    simp only [FlatV] at h
    obtain ⟨v1, v2, L1, L2, rfl, g1, g2, g3, rfl⟩ := h
    have hl := RVs_length g2
    simp only [RRows]
    refine ⟨v1, L1, L2, g1, by omega, fun j hj => ?_, g2, FlatV_rows g3 (fun j hj => ?_), rfl⟩
    · rw [hc j (by simp; omega), List.getElem?_append_left (by omega)]
    · have := hc (sz + j) (by simp; omega)
      rw [← Nat.add_assoc] at this
      rw [this, List.getElem?_append_right (by omega)]
      congr 1
      omega

theorem rows_FlatV {e : Env} {W : World} {b sz : Nat} : ∀ {rows : List (List AV)} {L : List Nat} {o : Nat}, RRows e W b o sz rows L → ∃ vs, FlatV e sz rows vs L ∧ ∀ j, j < vs.length → W.cell? ⟨b, o + j, none⟩ = vs[j]?
  | [], _, _, h => by simp only [RRows] at h; exact ⟨[], ⟨rfl, h⟩, by simp⟩
  | r :: rs, _, o, h => by
    simp only [RRows] at h
    obtain ⟨v1, L1, L2, h1, h2, h3, h4, h5, rfl⟩ := h
    obtain ⟨v2, h6, h7⟩ := rows_FlatV h5
    refine ⟨v1 ++ v2, ⟨v1, v2, L1, L2, rfl, h1, h4, h6, rfl⟩, fun j hj => ?_⟩
    by_cases hjs : j < sz
    · rw [h3 j hjs, List.getElem?_append_left (by omega)]
    · rw [List.getElem?_append_right (by omega), h2]
      have := h7 (j - sz) (by simp at hj; omega)
      rw [← this]
      congr 2
      omega

theorem upH_append (H : Nat → Option Row) : ∀ (a b : FP), upH H (a ++ b) = upH (upH H a) b
  | [], b => rfl
  | (n, p, r) :: a, b => by simp only [List.cons_append, upH]; exact upH_append _ a b

theorem alloc_get {w w1 : World} {ob : Obj} (h : w1.heap = w.heap) {b : Nat} (hb : b < w.heap.size) : (w1.alloc ob).heap[b]? = w.heap[b]? := by
  simp only [World.alloc, h]
  rw [Array.getElem?_push_lt hb]
  simp [hb]

theorem alloc_new {w w1 : World} {ob : Obj} (h : w1.heap = w.heap) : (w1.alloc ob).heap[w.heap.size]? = some ob := by
  simp [World.alloc, h]

/-- One new row beside rows that are read. -/
theorem Tri.of_new {P : Program} {num : Nat → Nat} {o : Oper} {ρ : Nat → AV} {v : AV} {rd : FP} {nx sz : Nat} {rows : List (List AV)} (hrd : ∀ x ∈ rd, x.2.2 = x.2.1) (hnx : nx ∉ rd.map (·.1))
    (h : ∀ (e : Env) (L0 : List Nat) (H : Nat → Option Row) (Lf : Nat → List Nat) (A : Nat → Prop) (a : Act), e.num = num → Ok e L0 H Lf → (∀ x ∈ rd, H x.1 = x.2.1) → (∀ t, bnd A (ρ t)) → (∀ nm row, H nm = some row → bndr A row.2) →
      (∀ t, RV e (ρ t) (a.tmps.getD t undef) []) →
      ∃ (w1 : World) (arr : Array Value) (ty cap : Nat) (vals : List Value) (v' : Value), (execOp a.eval o).run P e.w = .ok (.value v') (w1.alloc (.cells arr ty)) ∧ (w1.heap = e.w.heap ∧ SameIo e.w w1) ∧ bndr A rows ∧ FlatV e sz rows vals [] ∧ (∀ j, j < vals.length → arr[j]? = vals[j]?) ∧
        0 < sz ∧ rows.length ≤ cap ∧ cap * sz ≤ arr.size ∧ (∀ e' : Env, e'.φ nx = .at ⟨e.w.heap.size, 0, cap, sz⟩ → RV e' v v' [])) :
    Tri P num o ρ v (rd ++ [(nx, none, some (sz, rows))]) := by
  intro e L0 H Lf A a K Q hn hk hpre hbt hbh hfr ht k
  obtain ⟨w1, arr, ty, cap, vals, v', hr, ⟨hw, hio⟩, hb, hfl, hc, hsz, hcap, hroom, hv⟩ := h e L0 H Lf A a hn hk (fun x hx => hpre x (by simp [hx])) hbt hbh ht
  have hnone : H nx = none := hpre (nx, none, some (sz, rows)) (by simp)
  have hnA : ¬ A nx := hfr (nx, none, some (sz, rows)) (by simp) rfl
  let e' : Env := { e with w := w1.alloc (.cells arr ty), φ := fun n => if n = nx then .at ⟨e.w.heap.size, 0, cap, sz⟩ else e.φ n }
  have φn : ∀ nm, nm ≠ nx → e'.φ nm = e.φ nm := fun nm h => if_neg h
  have φx : e'.φ nx = .at ⟨e.w.heap.size, 0, cap, sz⟩ := if_pos rfl
  have hH : ∀ n, upH H (rd ++ [(nx, none, some (sz, rows))]) n = if n = nx then some (sz, rows) else H n := by
    intro n
    rw [upH_append, upH_same (fun x hx => hpre x (by simp [hx])) hrd]
    rfl
  have hsize : e'.w.heap.size = e.w.heap.size + 1 := by
    show (w1.alloc _).heap.size = _
    simp [hw]
  have keep : ∀ b, b < e.w.heap.size → e'.w.heap[b]? = e.w.heap[b]? := fun b hb => alloc_get hw hb
  have kp : ∀ L : List Nat, (∀ b ∈ L, b < e.w.heap.size) → Keeps e e' A L := fun L hL => {
    num := rfl
    fr := fun m b h => by cases m <;> exact h
    cells := fun b _ o => rfl
    φ := fun nm hA => .inl (φn nm (fun he => hnA (he ▸ hA)))
    own := fun b hb => keep b (hL b hb) }
  have hother : ∀ nm row, nm ≠ nx → H nm = some row → RowAt e' nm row (Lf nm) := fun nm row hne hrow =>
    (hk.rh.row nm row hrow).keep (kp _ (fun b hb => (hk.rh.blk nm (by simp [hrow]) b hb).1)) (φn nm hne) (hbh nm row hrow)
  refine wp_value (w' := e'.w) hr (k e' (fun n => if n = nx then [e.w.heap.size] else Lf n) v' ?_ (hv e' φx))
  refine { num := rfl, w0 := rfl, Fr := rfl, Bo := rfl, io := hio, size := by omega, keep := fun b hb _ => keep b hb, φ := ?_, φF := ?_, rest := ?_, row := ?_, nodup := ?_, blk := ?_, dis := ?_, dead := ?_ }
  · intro nm hF
    exact φn nm (fun he => hF (by simp [he]))
  · intro nm _ hne
    exact .inl (φn nm (fun he => hne (he ▸ hnone)))
  · intro nm hF
    rw [hH, if_neg (fun he => hF (by simp [he]))]
  · intro nm row _ hrow
    rw [hH] at hrow
    by_cases hne : nm = nx
    · subst hne
      rw [if_pos rfl] at hrow
      simp only [Option.some.injEq] at hrow
      subst hrow
      simp only [if_true]
      have hblk : e'.w.heap[e.w.heap.size]? = some (.cells arr ty (0, 0)) := alloc_new hw
      unfold RowAt RowSp
      rw [φx]
      refine ⟨rfl, ⟨hsz, hcap, arr, ty, hblk, by simpa using hroom⟩, [], ?_, rfl⟩
      refine FlatV_rows (FlatV_keep (kp [] (by simp)) hb hfl) (fun j hj => ?_)
      rw [cell_blk hblk, Nat.zero_add]
      exact hc j hj
    · rw [if_neg hne] at hrow
      simp only [if_neg hne]
      exact hother nm row hne hrow
  · intro nm _ hne
    rw [hH] at hne
    by_cases he : nm = nx
    · simp [he]
    · rw [if_neg he] at hne
      simp only [if_neg he]
      exact hk.rh.nodup nm hne
  · intro nm hF hne b hb
    rw [hH] at hne
    by_cases he : nm = nx
    · simp only [if_pos he, List.mem_singleton] at hb
      exact ⟨by omega, .inl (by omega)⟩
    · rw [if_neg he] at hne
      simp only [if_neg he] at hb
      exact ⟨by have := (hk.rh.blk nm hne b hb).1; omega, .inr ⟨nm, hF, hne, hb⟩⟩
  · intro n m _ _ hn hm hne b hb1 hb2
    rw [hH] at hn hm
    by_cases h1 : n = nx <;> by_cases h2 : m = nx
    · exact hne (h1.trans h2.symm)
    · simp only [if_pos h1, if_neg h2, List.mem_singleton] at hb1 hb2 hm
      have := (hk.rh.blk m hm b hb2).1; omega
    · simp only [if_pos h2, if_neg h1, List.mem_singleton] at hb1 hb2 hn
      have := (hk.rh.blk n hn b hb1).1; omega
    · simp only [if_neg h1, if_neg h2] at hb1 hb2 hn hm
      exact hk.rh.dis n m hn hm hne b hb1 hb2
  · intro nm _ hno
    rw [hH] at hno
    by_cases he : nm = nx
    · simp [he] at hno
    · rw [if_neg he] at hno
      rw [φn nm he]
      exact hk.rh.dead nm hno

section
variable {P : Program} {num : Nat → Nat} {o : Oper} {ρ : Nat → AV} {h : Heap} {nx nx' : Nat} {p : Prop} {v : AV} {fp : FP}

mutual
theorem chkV_bnd {A : Nat → Prop} : ∀ {d : AV} {v : Value}, chkV d v = true → bnd A d
  | .agg ds, v, h => by
    simp only [chkV] at h
    split at h
    · exact chkVs_bnd h
    · simp at h
  | .bool _, _, _ | .int _ _, _, _ | .str _, _, _ | .nil, _, _ | .nilp, _, _ | .nilI, _, _ => trivial
  | .any, _, h | .fn _ _, _, h | .ptr _ _ _, _, h | .fptr _ _ _, _, h | .ifc, _, h | .ns _ _ _, _, h | .sl _ _ _, _, h | .tup _, _, h => by simp [chkV] at h
theorem chkVs_bnd {A : Nat → Prop} : ∀ {ds : List AV} {vs : List Value}, chkVs ds vs = true → bnds A ds
  | [], _, _ => trivial
  | d :: ds, vs, h => by
    cases vs with
    | nil => simp [chkVs] at h
    | cons v vs =>
      simp only [chkVs, Bool.and_eq_true] at h
      exact ⟨chkV_bnd h.1, chkVs_bnd h.2⟩
end

theorem arg_bnd {A : Nat → Prop} {x : Operand} {y : Arg} (ht : ∀ t, bnd A (ρ t)) (h : chkA num x y = true) : bnd A (y.ev ρ) := by
  cases y with
  | t n => exact ht n
  | c d =>
    cases x with
    | tmp t => simp [chkA] at h
    | const v => exact chkV_bnd h
    | global g => simp [chkA] at h
    | func f =>
      cases d with
      | fn g cap => cases cap <;> simp [chkA] at h; trivial
      | _ => simp [chkA] at h

theorem cellsOf_bnd {A : Nat → Prop} {v : AV} (h : bnd A v) : bnds A (cellsOf v) := by
  cases v <;> first | exact h | exact ⟨h, trivial⟩

theorem tri_alloc {zero : List AV} (hc : chkOp P num (.alloc zero) o.op = true) (hp : plan ρ h nx (.alloc zero) = some (p, v, fp, nx')) (h0 : p) : Tri P num o ρ v fp := by
  simp only [chkOp] at hc
  split at hc
  · rename_i t hop
    obtain ⟨i, z, hi, hs, hz, hzv, hzo⟩ := chkZero_some hc
    simp only [plan, Option.some.injEq, Prod.mk.injEq] at hp
    obtain ⟨rfl, rfl, rfl, _⟩ := hp
    refine Tri.of_new (rd := []) (by simp) (by simp) ?_
    intro e L0 H Lf A a hn hk _ _ _ ht
    have hl := RVs_length (RVs_const (e := e) hzv)
    refine ⟨e.w, z.cells, t, 1, z.cells.toList, .pointer (some ⟨e.w.heap.size, 0, none⟩), ?_, ⟨rfl, SameIo.refl _⟩, ⟨chkVs_bnd hzv, trivial⟩, ?_, ?_, h0, by simp, ?_, ?_⟩
    · simp only [execOp, hop, Sem.run_bind, Instr.alloc, run_zeroValue' hi hz, Result.andThen_ok, newVar]
      rw [run_newRow]
      rfl
    · exact ⟨z.cells.toList, [], [], [], by simp, ⟨rfl, hzo⟩, RVs_const hzv, ⟨rfl, rfl⟩, rfl⟩
    · intro j _; simp
    · simp at hl ⊢; omega
    · intro e' hφ
      simpa using RV_ptr (i := 0) (f := 0) hφ
  · simp at hc

theorem tri_box {x : Arg} (hc : chkOp P num (.box x) o.op = true) (hp : plan ρ h nx (.box x) = some (p, v, fp, nx')) (hpp : p) : Tri P num o ρ v fp := by
  simp only [chkOp] at hc
  split at hc
  · rename_i t y hop
    simp only [plan, Option.some.injEq, Prod.mk.injEq] at hp
    obtain ⟨rfl, rfl, rfl, _⟩ := hp
    obtain ⟨p1, p2⟩ := hpp
    refine Tri.of_new (rd := []) (by simp) (by simp) ?_
    intro e L0 H Lf A a hn hk _ hbt _ ht
    subst hn
    have g := cells_value p1 (RV_arg (ρ := ρ) ht hc)
    have hl := RVs_length g
    refine ⟨e.w, (a.eval y).cells, t, 1, (a.eval y).cells.toList, .pointer (some ⟨e.w.heap.size, 0, none⟩), ?_, ⟨rfl, SameIo.refl _⟩, ⟨cellsOf_bnd (arg_bnd hbt hc), trivial⟩, ?_, ?_, p2, by simp, ?_, ?_⟩
    · simp only [execOp, hop, Sem.run_bind, Instr.box, newVar]
      rw [run_newRow]
      rfl
    · exact ⟨(a.eval y).cells.toList, [], [], [], by simp, ⟨rfl, p1⟩, g, ⟨rfl, rfl⟩, rfl⟩
    · intro j _; simp
    · simp at hl ⊢; omega
    · intro e' hφ
      simpa using RV_ptr (i := 0) (f := 0) hφ
  · simp at hc

end
end Go.Sep

/- New slices: written out, and made. -/
namespace Go.Sep
set_option linter.unusedVariables false
set_option linter.unusedSimpArgs false

theorem flatten_get {α : Type} (l : List α) : ∀ (n j : Nat), j < n * l.length → (List.replicate n l).flatten[j]? = l[j % l.length]?
  | 0, j, h => by simp at h
  | n + 1, j, h => by
    rw [List.replicate_succ, List.flatten_cons]
    by_cases hj : j < l.length
    · rw [List.getElem?_append_left hj, Nat.mod_eq_of_lt hj]
    · rw [List.getElem?_append_right (by omega), flatten_get l n (j - l.length) (by rw [Nat.add_mul] at h; omega)]
      have : j = (j - l.length) + l.length := by omega
      conv => rhs; rw [this, Nat.add_mod_right]

/-- An array of the same cells again and again. -/
theorem zeros_get {zc : Array Value} {n m : Nat} (hm : m = zc.size) (j : Nat) (hj : j < n * m) : ((Array.range (n * m)).map (zc[· % zc.size]!))[j]? = (List.replicate n zc.toList).flatten[j]? := by
  subst hm
  have hpos : 0 < zc.size := by
    rcases Nat.eq_zero_or_pos zc.size with h | h
    · simp [h] at hj
    · exact h
  have h1 := Nat.mod_lt j hpos
  rw [flatten_get zc.toList n j (by simpa using hj)]
  simp [hj, h1]

theorem FlatV_replicate {e : Env} {sz : Nat} {z : List AV} {zc : List Value} (h : RVs e z zc []) (hs : z.length = sz ∧ z.all cellOk = true) : ∀ (n : Nat), FlatV e sz (List.replicate n z) (List.replicate n zc).flatten []
  | 0 => ⟨rfl, rfl⟩
  | n + 1 => by
    rw [List.replicate_succ, List.replicate_succ, List.flatten_cons]
    exact ⟨zc, _, [], [], rfl, hs, h, FlatV_replicate h hs n, rfl⟩

theorem FlatV_set {e : Env} {sz : Nat} {r : List AV} {us : List Value} (hr : RVs e r us []) (hs : r.length = sz ∧ r.all cellOk = true) : ∀ {rows : List (List AV)} {vs : List Value} (i : Nat), i < rows.length → FlatV e sz rows vs [] →
    FlatV e sz (rows.set i r) (vs.take (i * sz) ++ us ++ vs.drop (i * sz + us.length)) []
  | [], _, i, hi, _ => by simp at hi
  | q :: rows, vs, i, hi, h => by
    simp only [FlatV] at h
    obtain ⟨v1, v2, L1, L2, rfl, h1, h2, h3, h4⟩ := h
    obtain ⟨rfl, rfl⟩ := nil_of_append h4
    have hl := RVs_length h2
    have hu := RVs_length hr
    cases i with
    | zero =>
      simp only [List.set_cons_zero, FlatV]
      refine ⟨us, v2, [], [], ?_, hs, hr, h3, rfl⟩
      rw [hu, hs.1, ← h1.1, ← hl]
      simp
    | succ i =>
      simp only [List.set_cons_succ, FlatV]
      refine ⟨v1, _, [], [], ?_, h1, h2, FlatV_set hr hs i (by simpa using hi) h3, rfl⟩
      have e1 : (i + 1) * sz = v1.length + i * sz := by rw [Nat.add_mul]; omega
      rw [e1, List.take_append, List.drop_append, List.take_of_length_le (by omega), List.drop_of_length_le (by omega)]
      have e2 : v1.length + i * sz - v1.length = i * sz := by omega
      have e3 : v1.length + i * sz + us.length - v1.length = i * sz + us.length := by omega
      rw [e2, e3]
      simp

section
variable {P : Program} {num : Nat → Nat} {o : Oper} {ρ : Nat → AV} {h : Heap} {nx nx' : Nat} {p : Prop} {v : AV} {fp : FP}

theorem fill_rows {e : Env} {a : Act} {sz n : Nat} (ht : ∀ t, RV e (ρ t) (a.tmps.getD t undef) []) : ∀ (parts : List (Nat × Arg)) (ps : List (Nat × Operand)) (rows : List (List AV)) (arr : Array Value), chkRows e.num ps parts = true →
      fillROk ρ n sz parts → rows.length = n → FlatV e sz rows arr.toList [] → ∃ arr', Instr.fill (fun i => some (i * sz, sz)) arr (ps.map fun x => (x.1, a.eval x.2)) = some arr' ∧ FlatV e sz (fillR ρ rows parts) arr'.toList []
  | [], ps, rows, arr, hc, _, _, h => by
    cases ps with
    | nil => exact ⟨arr, rfl, h⟩
    | cons => simp [chkRows] at hc
  | (i, y) :: parts, ps, rows, arr, hc, hf, hn, h => by
    cases ps with
    | nil => simp [chkRows] at hc
    | cons q ps =>
      obtain ⟨j, x⟩ := q
      simp only [chkRows, Bool.and_eq_true, beq_iff_eq] at hc
      obtain ⟨⟨rfl, h2⟩, h3⟩ := hc
      simp only [fillROk] at hf
      obtain ⟨⟨f1, f2, f3⟩, f4⟩ := hf
      have g := cells_value f3 (RV_arg (ρ := ρ) ht h2)
      have gl := RVs_length g
      have hl := FlatV_length h
      have hmul : (j + 1) * sz ≤ n * sz := Nat.mul_le_mul_right _ f1
      rw [Nat.add_mul] at hmul
      have harr : arr.size = n * sz := by rw [← hn]; simpa using hl
      have hus : (a.eval x).cells.toList.length = sz := by omega
      have hs := arrSet_list arr (j * sz) (a.eval x).cells.toList (by rw [harr, hus]; omega)
      have hr : FlatV e sz (rows.set j (cellsOf (y.ev ρ))) (arrSet arr (j * sz) (a.eval x).cells.toList).toList [] := by
        rw [hs]
        exact FlatV_set g ⟨f2, f3⟩ j (by omega) h
      obtain ⟨arr', h6, h7⟩ := fill_rows ht parts ps _ _ h3 f4 (by simpa using hn) hr
      refine ⟨arr', ?_, h7⟩
      simp only [List.map_cons, Instr.fill]
      have hsz : (a.eval x).cells.size = sz := by simpa using hus
      have hcond : ¬ (((a.eval x).cells.size ≠ sz || j * sz + (a.eval x).cells.size > arr.size) = true) := by
        simp [hsz, harr]; omega
      rw [if_neg hcond]
      have hz : (a.eval x).cells.zipIdx.foldl (fun cs (c, k) => cs.setIfInBounds (j * sz + k) c) arr = arrSet arr (j * sz) (a.eval x).cells.toList := by
        rw [← Array.foldl_toList, Array.toList_zipIdx, fold_arrSet]
        simp
      rw [hz]
      exact h6

theorem fillR_bnd {A : Nat → Prop} (ht : ∀ t, bnd A (ρ t)) : ∀ (parts : List (Nat × Arg)) (ps : List (Nat × Operand)) (rows : List (List AV)), chkRows num ps parts = true → bndr A rows → bndr A (fillR ρ rows parts)
  | [], _, rows, _, hb => hb
  | (i, y) :: parts, ps, rows, hc, hb => by
    cases ps with
    | nil => simp [chkRows] at hc
    | cons q ps =>
      obtain ⟨j, x⟩ := q
      simp only [chkRows, Bool.and_eq_true] at hc
      simp only [fillR]
      refine fillR_bnd ht parts ps _ hc.2 ?_
      rw [bndr_iff] at hb ⊢
      intro r hr
      rcases List.mem_or_eq_of_mem_set hr with h | h
      · exact hb r h
      · rw [h]; exact cellsOf_bnd (arg_bnd ht hc.1.2)

theorem fillR_length {l : List (Nat × Arg)} : ∀ {rows : List (List AV)}, (fillR ρ rows l).length = rows.length := by
  induction l with
  | nil => intro rows; rfl
  | cons x l ih => obtain ⟨i, y⟩ := x; intro rows; simp [fillR, ih]

theorem replicate_bnd {A : Nat → Prop} {z : List AV} (h : bnds A z) (n : Nat) : bndr A (List.replicate n z) := by
  rw [bndr_iff]
  intro r hr
  rw [(List.mem_replicate.1 hr).2]
  exact h

theorem RV_ns0 {e : Env} {nm len : Nat} {q : Place} (hq : e.φ nm = .at q) (h0 : q.off = 0) (hl : len ≤ q.cap) : RV e (.ns nm 0 len) (.slice (some ⟨q.block, 0, none⟩) len q.cap) [] := by
  simp only [RV, hq, true_and]
  exact ⟨by omega, _, rfl, fun _ => by simp [h0]⟩

theorem tri_mkSl {zero : List AV} {len : Nat} {parts : List (Nat × Arg)} (hc : chkOp P num (.mkSl zero len parts) o.op = true) (hp : plan ρ h nx (.mkSl zero len parts) = some (p, v, fp, nx')) (hpp : p) : Tri P num o ρ v fp := by
  simp only [chkOp] at hc
  split at hc
  · rename_i t l ps hop
    simp only [Bool.and_eq_true, beq_iff_eq] at hc
    obtain ⟨rfl, hc⟩ := hc
    cases hel : elemOf? P t with
    | none => simp [hel] at hc
    | some el =>
      simp only [hel, Bool.and_eq_true, decide_eq_true_eq] at hc
      obtain ⟨⟨⟨h1, h2⟩, h3⟩, h4⟩ := hc
      obtain ⟨i, z, hi, hs, hz, hzv, hzo⟩ := chkZero_some h1
      simp only [plan, Option.some.injEq, Prod.mk.injEq] at hp
      obtain ⟨rfl, rfl, rfl, _⟩ := hp
      refine Tri.of_new (rd := []) (by simp) (by simp) ?_
      intro e L0 H Lf A a hn hk _ hbt _ ht
      subst hn
      have hzl := RVs_length (RVs_const (e := e) hzv)
      have hzs : z.cells.size = zero.length := by simpa using hzl
      have hf0 : FlatV e zero.length (List.replicate l zero) ((Array.range (l * zero.length)).map (z.cells[· % z.cells.size]!)).toList [] := by
        have := FlatV_replicate (e := e) (RVs_const hzv) ⟨rfl, hzo⟩ l
        have e1 : ((Array.range (l * zero.length)).map (z.cells[· % z.cells.size]!)).toList = (List.replicate l z.cells.toList).flatten := by
          apply List.ext_getElem?
          intro j
          by_cases hj : j < l * zero.length
          · rw [Array.getElem?_toList]
            exact zeros_get hzs.symm j hj
          · rw [List.getElem?_eq_none (by simp; omega), List.getElem?_eq_none (by simp [hzs]; omega)]
        rw [e1]
        exact this
      obtain ⟨arr', g1, g2⟩ := fill_rows (n := l) ht parts ps.toList _ _ h4 hpp (by simp) hf0
      have hl2 := FlatV_length g2
      rw [fillR_length] at hl2
      simp only [List.length_replicate, Array.length_toList] at hl2
      refine ⟨e.w, arr', el, l, arr'.toList, .slice (some ⟨e.w.heap.size, 0, none⟩) l l, ?_, ⟨rfl, SameIo.refl _⟩, fillR_bnd hbt parts ps.toList _ h4 (replicate_bnd (chkVs_bnd hzv) l), g2, ?_, h2, ?_, ?_, ?_⟩
      · simp only [execOp, hop, Sem.run_bind, Instr.buildSlice, run_underlying' (elemOf_some hel), Result.andThen_ok, run_sizeOf' hi, hs]
        rw [if_neg (by omega)]
        have e2 : (ps.map fun (i, x) => (i, a.eval x)).toList = ps.toList.map fun x => (x.1, a.eval x.2) := by simp
        by_cases hl0 : l * zero.length = 0
        · rw [if_pos hl0, e2]
          have hl1 : l = 0 := by rcases Nat.mul_eq_zero.1 hl0 with h | h <;> omega
          simp only [hl0] at g1
          simp only [Sem.run_bind, Sem.run_pure, Result.andThen_ok, hl0]
          have e3 : (Array.range 0).map (fun x => (#[] : Array Value)[x % (#[] : Array Value).size]!) = (Array.range 0).map (z.cells[· % z.cells.size]!) := by simp
          rw [e3, g1]
          simp only [Sem.run_bind]
          rw [run_newRow]
          rfl
        · rw [if_neg hl0, e2]
          simp only [Sem.run_bind, run_zeroValue' hi hz, Result.andThen_ok, Sem.run_pure]
          rw [g1]
          simp only [Sem.run_bind]
          rw [run_newRow]
          rfl
      · intro j _; simp
      · simp [fillR_length]
      · omega
      · intro e' hφ
        exact RV_ns0 hφ rfl (Nat.le_refl _)
  · simp at hc

theorem wrap_small {n : Int} (h0 : 0 ≤ n) (h1 : n ≤ 2 ^ 47) : IntKind.i64.wrap n = n := by
  unfold IntKind.wrap
  simp only [IntKind.bits, IntKind.signed]
  have : n % (2 ^ 64 : Int) = n := Int.emod_eq_of_lt h0 (by omega)
  simp only [this]
  rw [if_neg]
  simp
  omega

theorem tri_mkS {zero : List AV} {bytes : Nat} {l c : Arg} (hc : chkOp P num (.mkS zero bytes l c) o.op = true) (hp : plan ρ h nx (.mkS zero bytes l c) = some (p, v, fp, nx')) (hpp : p) : Tri P num o ρ v fp := by
  simp only [chkOp] at hc
  split at hc
  · rename_i t l' c' hop
    simp only [Bool.and_eq_true] at hc
    obtain ⟨⟨h1, h2⟩, hc⟩ := hc
    cases hel : elemOf? P t with
    | none => simp [hel] at hc
    | some el =>
      simp only [hel, Bool.and_eq_true, decide_eq_true_eq] at hc
      obtain ⟨⟨h3, h4⟩, h5⟩ := hc
      obtain ⟨i, z, hi, hs, hz, hzv, hzo⟩ := chkZero_some h3
      obtain ⟨i', hi', hb⟩ := bytesIs_some h5
      rw [hi] at hi'
      simp only [Option.some.injEq] at hi'
      subst hi'
      simp only [plan] at hp
      split at hp
      · rename_i m n hx hy
        simp only [Option.some.injEq, Prod.mk.injEq] at hp
        obtain ⟨rfl, rfl, rfl, _⟩ := hp
        obtain ⟨rfl, p2, p3, p4⟩ := hpp
        refine Tri.of_new (rd := []) (by simp) (by simp) ?_
        intro e L0 H Lf A a hn hk _ hbt _ ht
        subst hn
        have hzl := RVs_length (RVs_const (e := e) hzv)
        have hzs : z.cells.size = zero.length := by simpa using hzl
        have g1 := RV_arg (ρ := ρ) ht h1
        rw [hx] at g1
        have g2 := RV_arg (ρ := ρ) ht h2
        rw [hy] at g2
        have e1 := RV_int g1
        have e2 := RV_int g2
        refine ⟨e.w, (Array.range (m.toNat * zero.length)).map (z.cells[· % z.cells.size]!), el, m.toNat, (List.replicate m.toNat z.cells.toList).flatten, .slice (some ⟨e.w.heap.size, 0, none⟩) m.toNat m.toNat, ?_, ⟨rfl, SameIo.refl _⟩, replicate_bnd (chkVs_bnd hzv) _,
          FlatV_replicate (RVs_const hzv) ⟨rfl, hzo⟩ _, ?_, h4, by simp, by simp, ?_⟩
        · simp only [execOp, hop, Sem.run_bind, Instr.makeSlice, run_underlying' (elemOf_some hel), Result.andThen_ok, e1, e2, asInt, asIntOf, Sem.run_pure, run_typeInfo' hi, hb]
          have w1 := wrap_small p2 p4
          simp only [w1]
          have t0 : (decide (m < 0) || decide ((bytes : Int) * m > 2 ^ 48)) = false := by
            simp
            omega
          have t1 : ¬ ((((decide (m < 0) || decide ((bytes : Int) * m > 2 ^ 48)) || decide (m < 0)) || decide (m > m)) = true) := by
            rw [t0]; simp; omega
          rw [if_neg t1]
          simp only [Sem.run_bind, run_askRoom, Result.andThen_ok, run_sizeOf' hi, hs]
          by_cases hl0 : m.toNat * zero.length = 0
          · rw [if_pos hl0]
            simp only [Sem.run_bind, Sem.run_pure, Result.andThen_ok, hl0]
            rw [run_newRow]
            simp only [Result.andThen_ok]
            have e3 : (Array.range 0).map (fun x => (#[] : Array Value)[x % (#[] : Array Value).size]!) = (Array.range 0).map (z.cells[· % z.cells.size]!) := by simp
            rw [e3]
          · rw [if_neg hl0]
            simp only [Sem.run_bind, run_zeroValue' hi hz, Result.andThen_ok, Sem.run_pure]
            rw [run_newRow]
            rfl
        · intro j hj
          refine zeros_get hzs.symm j ?_
          have := FlatV_length (FlatV_replicate (e := e) (RVs_const hzv) ⟨rfl, hzo⟩ m.toNat)
          rw [this] at hj
          simpa using hj
        · intro e' hφ
          exact RV_ns0 hφ rfl (Nat.le_refl _)
      · simp at hp
  · simp at hc

end
end Go.Sep

/- Loads out of named rows, which give names to slices of our own; stores into them. -/
namespace Go.Sep
set_option linter.unusedVariables false
set_option linter.unusedSimpArgs false

/-- The place of a slice of our own, as its value tells it. -/
def spotOf (sz : Nat) : Value → Spot
  | .slice (some a) _ c => if c = 0 then .nilp else .at ⟨a.block, a.off, c, sz⟩
  | _ => .nilp

theorem openL_le : ∀ (l : List AV) (n : Nat), n ≤ (openL n l).2.2 ∧ ∀ x ∈ (openL n l).2.1, n ≤ x.1 ∧ x.1 < (openL n l).2.2
  | [], n => by simp [openL]
  | v :: l, n => by
    have h0 := openL_le l n
    have h1 := openL_le l (n + 1)
    cases v
    case sl m sz rows =>
      cases m
      · simp only [openL]
        refine ⟨by omega, fun x hx => ?_⟩
        rcases List.mem_cons.1 hx with rfl | hx
        · exact ⟨Nat.le_refl _, by show n < _; omega⟩
        · have := h1.2 x hx; omega
      all_goals simpa only [openL] using h0
    all_goals simpa only [openL] using h0

theorem openL_nodup : ∀ (l : List AV) (n : Nat), ((openL n l).2.1.map (·.1)).Nodup
  | [], n => by simp [openL]
  | v :: l, n => by
    have h0 := openL_nodup l n
    have h1 := openL_nodup l (n + 1)
    cases v
    case sl m sz rows =>
      cases m
      · simp only [openL, List.map_cons, List.nodup_cons]
        refine ⟨?_, h1⟩
        intro hm
        obtain ⟨x, hx, hxn⟩ := List.mem_map.1 hm
        have := (openL_le l (n + 1)).2 x hx
        omega
      all_goals simpa only [openL] using h0
    all_goals simpa only [openL] using h0

theorem openL_length : ∀ (l : List AV) (n : Nat), (openL n l).1.length = l.length
  | [], n => rfl
  | v :: l, n => by
    cases v
    case sl m sz rows => cases m <;> simp [openL, openL_length l]
    all_goals simp [openL, openL_length l]

theorem openL_ok : ∀ (l : List AV) (n : Nat), l.all cellOk = true → (openL n l).1.all cellOk = true
  | [], n, _ => rfl
  | v :: l, n, h => by
    simp only [List.all_cons, Bool.and_eq_true] at h
    cases v
    case sl m sz rows => cases m <;> simp [openL, openL_ok l _ h.2] <;> rfl
    all_goals (simp only [openL, List.all_cons, openL_ok l _ h.2, Bool.and_true]; exact h.1)

theorem openL_none : ∀ (l : List AV) (n : Nat), (openL n l).2.1 = [] → (openL n l).1 = l
  | [], n, _ => rfl
  | v :: l, n, h => by
    cases v
    case sl m sz rows =>
      cases m
      · simp [openL] at h
      all_goals (simp only [openL] at h ⊢; rw [openL_none l n h])
    all_goals (simp only [openL] at h ⊢; rw [openL_none l n h])

theorem cell_free {e : Env} {v : AV} {c : Value} {L : List Nat} (hv : cellOk v = true) (hs : ∀ sz rows, v ≠ .sl .own sz rows) (h : RV e v c L) : L = [] := by
  cases v
  case sl m sz rows =>
    cases m
    · exact absurd rfl (hs sz rows)
    all_goals (simp only [RV] at h; exact h.1)
  case agg => simp [cellOk] at hv
  case tup => simp [cellOk] at hv
  all_goals simp only [RV] at h
  case any => exact h
  case fn => obtain ⟨_, _, _, h⟩ := h; exact h
  all_goals first | exact h.2 | exact h.1

/-- A slice of our own, as a named row. -/
theorem own_spot {e : Env} {sz : Nat} {rows : List (List AV)} {c : Value} {L : List Nat} (h : RV e (.sl .own sz rows) c L) : RowSp e (spotOf sz c) (sz, rows) L ∧
    (∀ e' : Env, ∀ n, e'.φ n = spotOf sz c → RV e' (.ns n 0 rows.length) c []) := by
  simp only [RV] at h
  rcases h with ⟨rfl, rfl, a, rfl⟩ | ⟨p, Lr, ⟨rfl, hc⟩, rfl, h2, h3, rfl⟩
  · have hs : spotOf sz (.slice a 0 0) = .nilp := by cases a <;> simp [spotOf]
    rw [hs]
    refine ⟨⟨rfl, rfl⟩, fun e' n hφ => ?_⟩
    simp only [RV, hφ, List.length_nil, true_and]
    exact ⟨a, rfl⟩
  · have hs : spotOf p.sz (.slice (some ⟨p.block, p.off, none⟩) rows.length p.cap) = .at ⟨p.block, p.off, p.cap, p.sz⟩ := by
      simp only [spotOf]
      rw [if_neg (by omega)]
    rw [hs]
    refine ⟨⟨rfl, h2, Lr, h3, rfl⟩, fun e' n hφ => ?_⟩
    simp only [RV, hφ, true_and]
    exact ⟨by simpa using h2.2.1, _, rfl, fun _ => by simp⟩

theorem RowSp.keep {e e' : Env} {A : Nat → Prop} {s : Spot} {row : Row} {L : List Nat} (k : Keeps e e' A L) (hb : bndr A row.2) (h : RowSp e s row L) : RowSp e' s row L := by
  unfold RowSp at h ⊢
  cases s with
  | dead => exact h
  | nilp => exact h
  | «at» p =>
    obtain ⟨h0, h1, Lr, h2, rfl⟩ := h
    exact ⟨h0, h1.keep (k.own _ (by simp)), Lr, RRows_keep row.2 (k.sub (by simp +contextual)) hb (fun _ o => cell_of_heap (k.own _ (by simp)) o) h2, rfl⟩

/-- Cells opened: which place and which blocks each new name has. -/
theorem open_cells {e : Env} {A : Nat → Prop} : ∀ (l : List AV) (vs : List Value) (L : List Nat) (n : Nat), RVs e l vs L → l.all cellOk = true → bnds A l →
    ∃ S : List (Nat × Spot × List Nat), S.map (·.1) = (openL n l).2.1.map (·.1) ∧ L = S.flatMap (·.2.2) ∧
      ∀ e', (∀ x ∈ S, e'.φ x.1 = x.2.1) → Keeps e e' A L → RVs e' (openL n l).1 vs [] ∧ ∀ x ∈ S, ∀ row, (x.1, row) ∈ (openL n l).2.1 → RowSp e' x.2.1 row x.2.2
  | [], vs, L, n, h, _, _ => by
    simp only [RVs] at h
    obtain ⟨rfl, rfl⟩ := h
    exact ⟨[], rfl, rfl, fun e' _ _ => ⟨by simp [openL, RVs], by simp⟩⟩
  | v :: l, vs, L, n, h, hok, hb => by
    simp only [RVs] at h
    obtain ⟨c, vs', L1, L2, rfl, h1, h2, rfl⟩ := h
    simp only [List.all_cons, Bool.and_eq_true] at hok
    by_cases hv : ∃ sz rows, v = .sl .own sz rows
    · obtain ⟨sz, rows, rfl⟩ := hv
      obtain ⟨S, s1, s2, s3⟩ := open_cells l vs' L2 (n + 1) h2 hok.2 hb.2
      obtain ⟨o1, o2⟩ := own_spot h1
      refine ⟨(n, spotOf sz c, L1) :: S, by simp [openL, s1], by simp [s2], fun e' he hk => ?_⟩
      obtain ⟨g1, g2⟩ := s3 e' (fun x hx => he x (by simp [hx])) (hk.sub (by simp +contextual))
      refine ⟨?_, fun x hx row hr => ?_⟩
      · simp only [openL, RVs]
        exact ⟨c, vs', [], [], rfl, o2 e' n (he (n, spotOf sz c, L1) (by simp)), g1, rfl⟩
      · simp only [openL] at hr
        rcases List.mem_cons.1 hx with rfl | hx
        · rcases List.mem_cons.1 hr with hr | hr
          · simp only [Prod.mk.injEq, true_and] at hr
            subst hr
            exact o1.keep (hk.sub (by simp +contextual)) hb.1
          · have := ((openL_le l (n + 1)).2 _ hr).1
            simp at this; omega
        · rcases List.mem_cons.1 hr with hr | hr
          · have hm : x.1 ∈ S.map (·.1) := List.mem_map.2 ⟨x, hx, rfl⟩
            rw [s1] at hm
            obtain ⟨y, hy, hyx⟩ := List.mem_map.1 hm
            have := ((openL_le l (n + 1)).2 y hy).1
            simp only [Prod.mk.injEq] at hr
            omega
          · exact g2 x hx row hr
    · have hf := cell_free hok.1 (fun sz rows he => hv ⟨sz, rows, he⟩) h1
      subst hf
      have ho : openL n (v :: l) = (v :: (openL n l).1, (openL n l).2.1, (openL n l).2.2) := by
        cases v
        case sl m sz rows =>
          cases m
          · exact absurd ⟨_, _, rfl⟩ hv
          all_goals rfl
        all_goals rfl
      rw [ho]
      obtain ⟨S, s1, s2, s3⟩ := open_cells l vs' L2 n h2 hok.2 hb.2
      refine ⟨S, s1, by simpa using s2, fun e' he hk => ?_⟩
      obtain ⟨g1, g2⟩ := s3 e' he (hk.sub (by simp +contextual))
      refine ⟨?_, g2⟩
      simp only [RVs]
      exact ⟨c, vs', [], [], rfl, RV_keep v (hk.sub (by simp)) hb.1 h1, g1, rfl⟩

theorem RVs_split3 {e : Env} {r : List AV} {vs : List Value} {L : List Nat} (f n : Nat) (h : RVs e r vs L) (hf : f + n ≤ r.length) :
    ∃ La Lm Lc, L = La ++ (Lm ++ Lc) ∧ RVs e (r.take f) (vs.take f) La ∧ RVs e ((r.drop f).take n) ((vs.drop f).take n) Lm ∧ RVs e (r.drop (f + n)) (vs.drop (f + n)) Lc := by
  have h0 : r = r.take f ++ ((r.drop f).take n ++ r.drop (f + n)) := by
    rw [← List.drop_drop, List.take_append_drop, List.take_append_drop]
  rw [h0] at h
  obtain ⟨c1, c2, La, L2, h1, h2, h3, h4⟩ := (RVs_append _ _).1 h
  obtain ⟨c3, c4, Lm, Lc, h5, h6, h7, h8⟩ := (RVs_append _ _).1 h4
  have l1 := RVs_length h3
  have l2 := RVs_length h7
  rw [List.length_take, Nat.min_eq_left (by omega)] at l1
  rw [List.length_take, List.length_drop, Nat.min_eq_left (by omega)] at l2
  subst h5
  subst h1
  refine ⟨La, Lm, Lc, by rw [h2, h6], ?_, ?_, ?_⟩
  · rw [List.take_left' l1]; exact h3
  · rw [List.drop_left' l1, List.take_left' l2]; exact h7
  · have : List.drop (f + n) (c1 ++ (c3 ++ c4)) = c4 := by rw [← List.drop_drop, List.drop_left' l1, List.drop_left' l2]
    rw [this]; exact h8

mutual
theorem bnd_true : ∀ (v : AV), bnd (fun _ => True) v
  | .fn _ cap => bnds_true cap
  | .fptr _ cells _ => bnds_true cells
  | .sl _ _ rows => bndr_true rows
  | .agg cs => bnds_true cs
  | .tup cs => bnds_true cs
  | .ptr _ _ _ | .ns _ _ _ | .any | .int _ _ | .bool _ | .str _ | .nilp | .nil | .nilI | .ifc => trivial
theorem bnds_true : ∀ (l : List AV), bnds (fun _ => True) l
  | [] => trivial
  | c :: cs => ⟨bnd_true c, bnds_true cs⟩
theorem bndr_true : ∀ (l : List (List AV)), bndr (fun _ => True) l
  | [] => trivial
  | c :: cs => ⟨bnds_true c, bndr_true cs⟩
end

theorem nodup_flatMap_mem {α β : Type} {f : α → List β} {l : List α} {x : α} (h : (l.flatMap f).Nodup) (hx : x ∈ l) : (f x).Nodup := by
  induction l with
  | nil => simp at hx
  | cons y l ih =>
    rw [List.flatMap_cons, List.nodup_append] at h
    rcases List.mem_cons.1 hx with rfl | hx
    · exact h.1
    · exact ih h.2.1 hx

theorem flatMap_apart {α β : Type} {f : α → List β} {l : List α} {x y : α} {b : β} (h : (l.flatMap f).Nodup) (hx : x ∈ l) (hy : y ∈ l) (hne : x ≠ y) (h1 : b ∈ f x) (h2 : b ∈ f y) : False := by
  induction l with
  | nil => simp at hx
  | cons z l ih =>
    rw [List.flatMap_cons, List.nodup_append] at h
    rcases List.mem_cons.1 hx with ex | hx' <;> rcases List.mem_cons.1 hy with ey | hy'
    · exact hne (ex.trans ey.symm)
    · exact h.2.2 b (ex ▸ h1) b (List.mem_flatMap.2 ⟨y, hy', h2⟩) rfl
    · exact h.2.2 b (ey ▸ h2) b (List.mem_flatMap.2 ⟨x, hx', h1⟩) rfl
    · exact ih h.2.1 hx' hy'

section
variable {P : Program} {num : Nat → Nat} {o : Oper} {ρ : Nat → AV} {h : Heap} {nx nx' : Nat} {p : Prop} {v : AV} {fp : FP}

theorem getD_get {α : Type} {l : List α} {i : Nat} {d : α} (h : i < l.length) : l.getD i d = l[i] := by
  simp [List.getD_eq_getElem?_getD, h]

/-- A place in a named row: its cells. -/
theorem at_cells {e : Env} {q : Place} {row : Row} {i f n : Nat} {Lr : List Nat} (hq : q.sz = row.1) (hr : RRows e e.w q.block q.off q.sz row.2 Lr) (hi : i < row.2.length) (hf : f + n ≤ (row.2.getD i []).length) :
    ∃ vs L1 L2 L3, ((row.2.getD i []).length = q.sz ∧ (row.2.getD i []).all cellOk = true) ∧ vs.length = q.sz ∧ (∀ j, j < q.sz → e.w.cell? ⟨q.block, q.off + i * q.sz + j, none⟩ = vs[j]?) ∧ RVs e (row.2.getD i []) vs L2 ∧
      RRows e e.w q.block q.off q.sz (row.2.take i) L1 ∧ RRows e e.w q.block (q.off + (i + 1) * q.sz) q.sz (row.2.drop (i + 1)) L3 ∧ Lr = L1 ++ (L2 ++ L3) ∧
      ((vs.drop f).take n).length = n ∧ (∀ j, j < n → e.w.cell? ⟨q.block, q.off + i * q.sz + f + j, none⟩ = ((vs.drop f).take n)[j]?) := by
  obtain ⟨vs, L1, L2, L3, h1, h2, h3, h4, h5, h6, h7⟩ := RRows_split i hi hr
  rw [getD_get hi] at hf ⊢
  refine ⟨vs, L1, L2, L3, h1, h2, h3, h4, h5, h6, h7, by simp; omega, fun j hj => ?_⟩
  rw [show q.off + i * q.sz + f + j = q.off + i * q.sz + (f + j) by omega, h3 _ (by omega)]
  simp [hj]

theorem tri_load_f {n : Nat} {ag : Bool} {x : Arg} {m : Mode} {cells : List AV} {f : Nat} (hc : chkOp P num (.load n ag x) o.op = true) (hx : x.ev ρ = .fptr m cells f) (hf : f + n ≤ cells.length) :
    TriR P num o ρ (if ag then .agg ((cells.drop f).take n) else ((cells.drop f).take n).getD 0 .any) [] := by
  simp only [chkOp] at hc
  split at hc
  · rename_i t y hop
    simp only [Bool.and_eq_true, Bool.or_eq_true, beq_iff_eq] at hc
    obtain ⟨⟨⟨h1, h2⟩, h3⟩, h4⟩ := hc
    obtain ⟨i, hi, hs⟩ := sizeIs_some h2
    refine Tri.of_read (by simp) ?_
    intro e L0 H Lf a hn hk _ ht
    subst hn
    have g := RV_arg (ρ := ρ) ht h1
    rw [hx] at g
    simp only [RV] at g
    obtain ⟨_, b, o', vs, g1, g2, g3, g4, g5⟩ := g
    have hl : ((vs.drop f).take n).length = i.size := by rw [hs]; simp; omega
    have hcell : ∀ w', Same e [] w' → ∀ j, j < i.size → w'.cell? ⟨b, o' + f + j, none⟩ = ((vs.drop f).take n)[j]? := by
      intro w' hw' j hj
      rw [hw'.1 b (Env.frozen_or g2), hk.frozen_cell (Env.frozen_or g2), Nat.add_assoc, g4 _ (by omega)]
      simp [show j < n by omega]
    have hrv := RVs_take n (RVs_drop f g5)
    refine ⟨if ag then .agg ((vs.drop f).take n).toArray else ((vs.drop f).take n).getD 0 undef, ?_, ?_⟩
    · intro w' hw'
      simp only [execOp, hop, g1, Sem.run_bind, Instr.loadAt, Instr.sureAddr, Sem.run_pure, Result.andThen_ok]
      rw [run_loadVar h3 hi (fun ha => by rcases h4 with h4 | h4 <;> simp_all) hl (hcell w' hw')]
      rfl
    · cases ag with
      | true => simp only [if_true, RV]; exact ⟨_, rfl, hrv⟩
      | false =>
        simp at h4
        subst h4
        simp only [Bool.false_eq_true, if_false]
        obtain ⟨c, r1, r2⟩ := RVs_nil_get hrv 0 (by simp; omega)
        have e1 : ((vs.drop f).take 1).getD 0 undef = c := by rw [List.getD_eq_getElem?_getD, r1]; rfl
        rw [e1, getD_get (by simp; omega)]
        exact r2
  · simp at hc

/-- The model's load of cells that are known. -/
theorem run_load_at {w : World} {a : Act} {n : Nat} {ag : Bool} {y : Operand} {t : TypeId} {i : TypeInfo} {b o' : Nat} {vs : List Value} (hop : o.op = .load t y) (hi : P.info? t = some i) (hs : i.size = n) (h3 : aggB P t = some ag) (h4 : ag = true ∨ n = 1)
    (hy : a.eval y = .pointer (some ⟨b, o', none⟩)) (hl : vs.length = n) (hcell : ∀ j, j < n → w.cell? ⟨b, o' + j, none⟩ = vs[j]?) :
    (execOp a.eval o).run P w = .ok (.value (if ag then .agg vs.toArray else vs.getD 0 undef)) w := by
  subst hs
  simp only [execOp, hop, hy, Sem.run_bind, Instr.loadAt, Instr.sureAddr, Sem.run_pure, Result.andThen_ok]
  rw [run_loadVar h3 hi (fun ha => by rcases h4 with h4 | h4 <;> simp_all) hl hcell]
  rfl

theorem RV_loaded {e : Env} {n : Nat} {ag : Bool} {cs : List AV} {vs : List Value} (h4 : ag = true ∨ n = 1) (hl : cs.length = n) (h : RVs e cs vs []) :
    RV e (if ag then .agg cs else cs.getD 0 .any) (if ag then .agg vs.toArray else vs.getD 0 undef) [] := by
  cases ag with
  | true => simp only [if_true, RV]; exact ⟨_, rfl, h⟩
  | false =>
    simp at h4
    subst h4
    simp only [Bool.false_eq_true, if_false]
    obtain ⟨c, r1, r2⟩ := RVs_nil_get h 0 (by omega)
    have e1 : vs.getD 0 undef = c := by rw [List.getD_eq_getElem?_getD, r1]; rfl
    rw [e1, getD_get (by omega)]
    exact r2

theorem mem_upH_fresh {H : Nat → Option Row} : ∀ {l : List (Nat × Row)} {n : Nat}, (l.map (·.1)).Nodup → (∀ row, (n, row) ∈ l → upH H (fresh l) n = some row) ∧ (n ∉ l.map (·.1) → upH H (fresh l) n = H n)
  | [], n, _ => ⟨by simp, fun _ => rfl⟩
  | (m, r) :: l, n, hnd => by
    simp only [List.map_cons, List.nodup_cons] at hnd
    have ih := mem_upH_fresh (H := fun k => if k = m then some r else H k) (l := l) (n := n) hnd.2
    refine ⟨fun row hr => ?_, fun hn => ?_⟩
    · show upH _ (fresh l) n = _
      rcases List.mem_cons.1 hr with hr | hr
      · simp only [Prod.mk.injEq] at hr
        obtain ⟨rfl, rfl⟩ := hr
        rw [ih.2 hnd.1, if_pos rfl]
      · exact ih.1 row hr
    · simp only [List.map_cons, List.mem_cons, not_or] at hn
      show upH _ (fresh l) n = _
      rw [ih.2 hn.2, if_neg hn.1]

def spotIn (S : List (Nat × Spot × List Nat)) (φ : Nat → Spot) (n : Nat) : Spot := match S.find? (·.1 == n) with
  | some x => x.2.1
  | none => φ n
def blksIn (S : List (Nat × Spot × List Nat)) (Lf : Nat → List Nat) (n : Nat) : List Nat := match S.find? (·.1 == n) with
  | some x => x.2.2
  | none => Lf n

theorem find_mem {S : List (Nat × Spot × List Nat)} (hnd : (S.map (·.1)).Nodup) {x : Nat × Spot × List Nat} (hx : x ∈ S) : S.find? (·.1 == x.1) = some x := by
  induction S with
  | nil => simp at hx
  | cons y S ih =>
    simp only [List.map_cons, List.nodup_cons] at hnd
    rcases List.mem_cons.1 hx with rfl | hx
    · simp
    · have : y.1 ≠ x.1 := fun he => hnd.1 (List.mem_map.2 ⟨x, hx, he.symm⟩)
      simp [this, ih hnd.2 hx]

theorem find_none {S : List (Nat × Spot × List Nat)} {n : Nat} (h : n ∉ S.map (·.1)) : S.find? (·.1 == n) = none := by
  rw [List.find?_eq_none]
  intro x hx
  simp
  exact fun he => h (List.mem_map.2 ⟨x, hx, he⟩)

theorem tri_load_p {n : Nat} {ag : Bool} {x : Arg} {nm i f : Nat} {row : Row} (hc : chkOp P num (.load n ag x) o.op = true) (hx : x.ev ρ = .ptr nm i f) (hi : i < row.2.length) (hf : f + n ≤ (row.2.getD i []).length) :
    TriR P num o ρ (if ag then .agg (openL nx (((row.2.getD i []).drop f).take n)).1 else (openL nx (((row.2.getD i []).drop f).take n)).1.getD 0 .any)
      ((nm, some row, some (if (openL nx (((row.2.getD i []).drop f).take n)).2.1.isEmpty then row else (row.1, row.2.set i (splice (row.2.getD i []) f (openL nx (((row.2.getD i []).drop f).take n)).1)))) :: fresh (openL nx (((row.2.getD i []).drop f).take n)).2.1) := by
  simp only [chkOp] at hc
  split at hc
  · rename_i t y hop
    simp only [Bool.and_eq_true, Bool.or_eq_true, beq_iff_eq] at hc
    obtain ⟨⟨⟨h1, h2⟩, h3⟩, h4⟩ := hc
    obtain ⟨ti, hti, hs⟩ := sizeIs_some h2
    generalize hol : openL nx (((row.2.getD i []).drop f).take n) = ol
    have hlen0 : (((row.2.getD i []).drop f).take n).length = n := by rw [List.length_take, List.length_drop]; omega
    have olen : ol.1.length = n := by rw [← hol, openL_length, hlen0]
    by_cases hno : ol.2.1 = []
    · rw [hno]
      have h5 : ol.1 = ((row.2.getD i []).drop f).take n := by rw [← hol]; exact openL_none _ _ (by rw [hol]; exact hno)
      simp only [List.isEmpty_nil, if_true]
      refine Tri.of_read (by simp [fresh]) ?_
      intro e L0 H Lf a hn hk hpre ht
      subst hn
      have hr := hk.rh.row nm row (hpre (nm, some row, some row) (by simp [fresh]))
      have g := RV_arg (ρ := ρ) ht h1
      rw [hx] at g
      obtain ⟨q, hq, g2⟩ := ptr_at hr g
      have hr' := hr
      unfold RowAt RowSp at hr'
      rw [hq] at hr'
      obtain ⟨q1, q2, Lr, q3, q4⟩ := hr'
      obtain ⟨vs, L1, L2, L3, r1, r2, r3, r4, r5, r6, r7, r8, r9⟩ := at_cells q1 q3 hi hf
      refine ⟨_, fun w' hw' => run_load_at hop hti hs h3 h4 g2 r8 (fun j hj => by rw [cell_of_heap (hw'.2 (nm, some row, some row) (by simp [fresh]) q hq)]; exact r9 j hj), RV_loaded h4 olen ?_⟩
      obtain ⟨La, Lm, Lc, s1, s2, s3, s4⟩ := RVs_split3 f n r4 hf
      have hall : (((row.2.getD i []).drop f).take n).all cellOk = true := List.all_eq_true.2 fun c hc => List.all_eq_true.1 r1.2 c (List.mem_of_mem_drop (List.mem_of_mem_take hc))
      obtain ⟨S, t1, t2, t3⟩ := open_cells (A := fun _ => True) _ _ _ nx s3 hall (bnds_iff.2 fun c _ => bnd_true c)
      have hS : S = [] := by
        have : (openL nx (((row.2.getD i []).drop f).take n)).2.1 = [] := by rw [hol]; exact hno
        rw [this] at t1
        simpa using t1
      subst hS
      rw [h5]
      simp only [List.flatMap_nil] at t2
      subst t2
      exact s3
    · have hne : ol.2.1.isEmpty = false := by cases h : ol.2.1 with | nil => exact absurd h hno | cons => rfl
      simp only [hne, Bool.false_eq_true, if_false]
      intro e L0 H Lf A a hn hk hpre hbt hbh hfr ht
      subst hn
      have hrow : H nm = some row := hpre _ List.mem_cons_self
      have hr := hk.rh.row nm row hrow
      have g := RV_arg (ρ := ρ) ht h1
      rw [hx] at g
      obtain ⟨q, hq, g2⟩ := ptr_at hr g
      have hr' := hr
      unfold RowAt RowSp at hr'
      rw [hq] at hr'
      obtain ⟨q1, q2, Lr, q3, q4⟩ := hr'
      obtain ⟨vs, L1, L2, L3, r1, r2, r3, r4, r5, r6, r7, r8, r9⟩ := at_cells q1 q3 hi hf
      obtain ⟨La, Lm, Lc, s1, s2, s3, s4⟩ := RVs_split3 f n r4 hf
      have hrb := hbh nm row hrow
      have hrb1 : bnds A (row.2.getD i []) := by rw [getD_get hi]; exact bndr_iff.1 hrb _ (List.getElem_mem hi)
      have hall : (((row.2.getD i []).drop f).take n).all cellOk = true := List.all_eq_true.2 fun c hc => List.all_eq_true.1 r1.2 c (List.mem_of_mem_drop (List.mem_of_mem_take hc))
      obtain ⟨S, t1, t2, t3⟩ := open_cells (A := A) _ _ _ nx s3 hall (bnds_iff.2 fun c hc => bnds_iff.1 hrb1 c (List.mem_of_mem_drop (List.mem_of_mem_take hc)))
      rw [hol] at t1 t3
      have nd : (ol.2.1.map (·.1)).Nodup := by rw [← hol]; exact openL_nodup _ _
      have ndS : (S.map (·.1)).Nodup := by rw [t1]; exact nd
      -- the fresh names are new
      have hfresh : ∀ m, m ∈ ol.2.1.map (·.1) → H m = none ∧ ¬ A m := by
        intro m hm
        obtain ⟨y', hy, rfl⟩ := List.mem_map.1 hm
        have hmem : (y'.1, none, some y'.2) ∈ fresh ol.2.1 := List.mem_map.2 ⟨y', hy, rfl⟩
        exact ⟨hpre _ (List.mem_cons_of_mem _ hmem), hfr _ (List.mem_cons_of_mem _ hmem) rfl⟩
      have hnmS : nm ∉ ol.2.1.map (·.1) := fun hm => by have := (hfresh nm hm).1; rw [hrow] at this; simp at this
      let e' : Env := { e with φ := spotIn S e.φ }
      have φS : ∀ z ∈ S, e'.φ z.1 = z.2.1 := fun z hz => by show spotIn S e.φ z.1 = _; unfold spotIn; rw [find_mem ndS hz]
      have φn : ∀ m, m ∉ S.map (·.1) → e'.φ m = e.φ m := fun m hm => by show spotIn S e.φ m = _; unfold spotIn; rw [find_none hm]
      have kp : ∀ L, Keeps e e' A L := fun L => {
        num := rfl
        fr := fun m b h => by cases m <;> exact h
        cells := fun b _ o => rfl
        φ := fun m hA => .inl (φn m (fun hm => (hfresh m (by rw [← t1]; exact hm)).2 hA))
        own := fun b _ => rfl }
      obtain ⟨u1, u2⟩ := t3 e' φS (kp _)
      let Lf' : Nat → List Nat := fun m => if m = nm then q.block :: (L1 ++ ((La ++ Lc) ++ L3)) else blksIn S Lf m
      have LfS : ∀ z ∈ S, Lf' z.1 = z.2.2 := fun z hz => by
        have hz1 : z.1 ≠ nm := fun he => hnmS (by rw [← t1]; exact List.mem_map.2 ⟨z, hz, he⟩)
        show (if z.1 = nm then _ else blksIn S Lf z.1) = _
        rw [if_neg hz1]; unfold blksIn; rw [find_mem ndS hz]
      have LfN : Lf' nm = q.block :: (L1 ++ ((La ++ Lc) ++ L3)) := if_pos rfl
      have hLf : Lf nm = q.block :: (L1 ++ ((La ++ (Lm ++ Lc)) ++ L3)) := by rw [q4, r7, s1]
      have hnd := hk.rh.nodup nm (by simp [hrow])
      rw [hLf] at hnd
      have hblk := hk.rh.blk nm (by simp [hrow])
      rw [hLf] at hblk
      have subLm : ∀ z ∈ S, ∀ b ∈ z.2.2, b ∈ Lm := fun z hz b hb => by rw [t2]; exact List.mem_flatMap.2 ⟨z, hz, hb⟩
      have hH : ∀ m, upH H ((nm, some row, some (row.1, row.2.set i (splice (row.2.getD i []) f ol.1))) :: fresh ol.2.1) m = if m = nm then some (row.1, row.2.set i (splice (row.2.getD i []) f ol.1)) else upH H (fresh ol.2.1) m := by
        intro m
        show upH (fun k => if k = nm then _ else H k) (fresh ol.2.1) m = _
        by_cases hm : m ∈ ol.2.1.map (·.1)
        · obtain ⟨y', hy, rfl⟩ := List.mem_map.1 hm
          have hne' : y'.1 ≠ nm := fun he => hnmS (he ▸ hm)
          rw [(mem_upH_fresh nd).1 y'.2 hy, if_neg hne', (mem_upH_fresh nd).1 y'.2 hy]
        · rw [(mem_upH_fresh nd).2 hm, (mem_upH_fresh nd).2 hm]
      have memF : ∀ m, m ∈ ((nm, some row, some (row.1, row.2.set i (splice (row.2.getD i []) f ol.1))) :: fresh ol.2.1 : FP).map (·.1) ↔ m = nm ∨ m ∈ S.map (·.1) := by
        intro m
        rw [t1]
        simp [fresh]
      have hrv : RVs e' ol.1 ((vs.drop f).take n) [] := u1
      refine ⟨_, fun w' hw' => run_load_at hop hti hs h3 h4 g2 r8 (fun j hj => by rw [cell_of_heap (hw'.2 _ List.mem_cons_self q hq)]; exact r9 j hj), e', Lf', rfl, ?_, RV_loaded h4 olen hrv⟩
      refine { num := rfl, w0 := rfl, Fr := rfl, Bo := rfl, io := SameIo.refl _, size := Nat.le_refl _, keep := fun b _ _ => rfl, φ := ?_, φF := ?_, rest := ?_, row := ?_, nodup := ?_, blk := ?_, dis := ?_, dead := ?_ }
      · intro m hm
        exact φn m (fun h => hm ((memF m).2 (.inr h)))
      · intro m hm hH'
        refine .inl (φn m (fun h => ?_))
        exact hH' (hfresh m (by rw [← t1]; exact h)).1
      · intro m hm
        have hm' : m ≠ nm ∧ m ∉ S.map (·.1) := by
          refine ⟨fun h => hm ((memF m).2 (.inl h)), fun h => hm ((memF m).2 (.inr h))⟩
        rw [hH, if_neg hm'.1, (mem_upH_fresh nd).2 (by rw [← t1]; exact hm'.2)]
      · intro m row' hm hrow'
        rw [hH] at hrow'
        by_cases he : m = nm
        · subst he
          rw [if_pos rfl] at hrow'
          simp only [Option.some.injEq] at hrow'
          subst hrow'
          have hφ : e'.φ m = .at q := by rw [φn m (by rw [t1]; exact hnmS)]; exact hq
          rw [LfN]
          unfold RowAt RowSp
          rw [hφ]
          refine ⟨q1, ?_, _, ?_, rfl⟩
          · simp only [List.length_set]; exact q2
          · have hrlen : (splice (row.2.getD i []) f ol.1).length = q.sz ∧ (splice (row.2.getD i []) f ol.1).all cellOk = true := by
              refine ⟨?_, ?_⟩
              · rw [← r1.1]; exact splice_length _ _ _ (by rw [olen]; exact hf)
              · have := openL_ok (((row.2.getD i []).drop f).take n) nx hall
                rw [hol] at this
                unfold splice
                simp only [List.all_append, Bool.and_eq_true]
                exact ⟨⟨List.all_eq_true.2 fun c hc => List.all_eq_true.1 r1.2 c (List.mem_of_mem_take hc), this⟩, List.all_eq_true.2 fun c hc => List.all_eq_true.1 r1.2 c (List.mem_of_mem_drop hc)⟩
            have hb1 : bndr A (row.2.take i) := bndr_iff.2 fun r hr => bndr_iff.1 hrb r (List.mem_of_mem_take hr)
            have hb3 : bndr A (row.2.drop (i + 1)) := bndr_iff.2 fun r hr => bndr_iff.1 hrb r (List.mem_of_mem_drop hr)
            refine RRows_join (vs := vs) i hi hrlen r2 r3 ?_ (RRows_keep _ (kp _) hb1 (fun _ _ => rfl) r5) (RRows_keep _ (kp _) hb3 (fun _ _ => rfl) r6)
            have hvs : vs = vs.take f ++ (vs.drop f).take n ++ vs.drop (f + n) := by
              rw [List.append_assoc, ← List.drop_drop, List.take_append_drop, List.take_append_drop]
            rw [hvs]
            unfold splice
            rw [olen]
            refine (RVs_append _ _).2 ⟨_, _, La, Lc, rfl, rfl, (RVs_append _ _).2 ⟨_, _, La, [], rfl, by simp, ?_, hrv⟩, ?_⟩
            · exact RVs_keep _ (kp _) (bnds_iff.2 fun c hc => bnds_iff.1 hrb1 c (List.mem_of_mem_take hc)) s2
            · exact RVs_keep _ (kp _) (bnds_iff.2 fun c hc => bnds_iff.1 hrb1 c (List.mem_of_mem_drop hc)) s4
        · rw [if_neg he] at hrow'
          have hmS : m ∈ S.map (·.1) := ((memF m).1 hm).resolve_left he
          obtain ⟨z, hz, rfl⟩ := List.mem_map.1 hmS
          have hz' : z.1 ∈ ol.2.1.map (·.1) := by rw [← t1]; exact hmS
          obtain ⟨y', hy, hyz⟩ := List.mem_map.1 hz'
          have hy2 : (z.1, y'.2) ∈ ol.2.1 := by rw [← hyz]; exact hy
          rw [(mem_upH_fresh nd).1 y'.2 hy2] at hrow'
          simp only [Option.some.injEq] at hrow'
          subst hrow'
          rw [LfS z hz]
          unfold RowAt
          rw [φS z hz]
          exact u2 z hz y'.2 hy2
      · intro m hm _
        rcases (memF m).1 hm with rfl | hmS
        · rw [LfN]
          exact hnd.sublist (List.Sublist.cons_cons _ ((List.Sublist.refl _).append (((List.Sublist.refl _).append (List.sublist_append_right _ _)).append (List.Sublist.refl _))))
        · obtain ⟨z, hz, rfl⟩ := List.mem_map.1 hmS
          rw [LfS z hz]
          have hLm : Lm.Nodup := by
            refine hnd.sublist ?_
            exact (((List.sublist_append_left Lm Lc).trans (List.sublist_append_right La _)).trans (List.sublist_append_left _ L3)).trans ((List.sublist_append_right L1 _).trans (List.sublist_cons_self _ _))
          rw [t2] at hLm
          exact nodup_flatMap_mem (f := fun x : Nat × Spot × List Nat => x.2.2) hLm hz
      · intro m hm _ b hb
        rcases (memF m).1 hm with rfl | hmS
        · rw [LfN] at hb
          have hb' : b ∈ Lf m := by
            rw [hLf]
            simp only [List.mem_cons, List.mem_append] at hb ⊢
            rcases hb with h | h | (h | h) | h
            · exact .inl h
            · exact .inr (.inl h)
            · exact .inr (.inr (.inl (.inl h)))
            · exact .inr (.inr (.inl (.inr (.inr h))))
            · exact .inr (.inr (.inr h))
          exact ⟨(hk.rh.blk m (by simp [hrow]) b hb').1, .inr ⟨m, hm, by simp [hrow], hb'⟩⟩
        · obtain ⟨z, hz, rfl⟩ := List.mem_map.1 hmS
          rw [LfS z hz] at hb
          have hb' : b ∈ Lf nm := by
            rw [hLf]
            have := subLm z hz b hb
            simp [this]
          exact ⟨(hk.rh.blk nm (by simp [hrow]) b hb').1, .inr ⟨nm, (memF nm).2 (.inl rfl), by simp [hrow], hb'⟩⟩
      · have key : ∀ z ∈ S, ∀ b ∈ z.2.2, b ∉ q.block :: (L1 ++ ((La ++ Lc) ++ L3)) := by
          intro z hz b hb hb2
          have hm := subLm z hz b hb
          rw [List.nodup_cons] at hnd
          obtain ⟨n1, n2⟩ := hnd
          rw [List.nodup_append] at n2
          obtain ⟨_, n3, n4⟩ := n2
          rw [List.nodup_append] at n3
          obtain ⟨n5, _, n6⟩ := n3
          rw [List.nodup_append] at n5
          obtain ⟨_, n7, n8⟩ := n5
          rw [List.nodup_append] at n7
          obtain ⟨_, _, n9⟩ := n7
          rcases List.mem_cons.1 hb2 with h | h
          · subst h; exact n1 (by simp [hm])
          · rcases List.mem_append.1 h with h | h
            · exact n4 b h b (by simp [hm]) rfl
            · rcases List.mem_append.1 h with h | h
              · rcases List.mem_append.1 h with h | h
                · exact n8 b h b (by simp [hm]) rfl
                · exact n9 b hm b h rfl
              · exact n6 b (by simp [hm]) b h rfl
        intro m1 m2 hm1 hm2 _ _ hne' b hb1 hb2
        rcases (memF m1).1 hm1 with rfl | h1' <;> rcases (memF m2).1 hm2 with rfl | h2'
        · exact hne' rfl
        · obtain ⟨z, hz, rfl⟩ := List.mem_map.1 h2'
          rw [LfN] at hb1; rw [LfS z hz] at hb2
          exact key z hz b hb2 hb1
        · obtain ⟨z, hz, rfl⟩ := List.mem_map.1 h1'
          rw [LfN] at hb2; rw [LfS z hz] at hb1
          exact key z hz b hb1 hb2
        · obtain ⟨z, hz, rfl⟩ := List.mem_map.1 h1'
          obtain ⟨z2, hz2, rfl⟩ := List.mem_map.1 h2'
          rw [LfS z hz] at hb1; rw [LfS z2 hz2] at hb2
          have hLm : Lm.Nodup := by
            refine hnd.sublist ?_
            exact (((List.sublist_append_left Lm Lc).trans (List.sublist_append_right La _)).trans (List.sublist_append_left _ L3)).trans ((List.sublist_append_right L1 _).trans (List.sublist_cons_self _ _))
          rw [t2] at hLm
          exact flatMap_apart (f := fun x : Nat × Spot × List Nat => x.2.2) hLm hz hz2 (fun he => hne' (by rw [he])) hb1 hb2
      · intro m hm hno'
        rw [hH] at hno'
        rcases (memF m).1 hm with rfl | hmS
        · simp at hno'
        · obtain ⟨z, hz, rfl⟩ := List.mem_map.1 hmS
          have hz' : z.1 ∈ ol.2.1.map (·.1) := by rw [← t1]; exact hmS
          obtain ⟨y', hy, hyz⟩ := List.mem_map.1 hz'
          have hy2 : (z.1, y'.2) ∈ ol.2.1 := by rw [← hyz]; exact hy
          have hne' : z.1 ≠ nm := fun he => hnmS (he ▸ hz')
          rw [if_neg hne', (mem_upH_fresh nd).1 y'.2 hy2] at hno'
          simp at hno'
  · simp at hc

end
end Go.Sep

/- Stores into named rows. -/
namespace Go.Sep
set_option linter.unusedVariables false
set_option linter.unusedSimpArgs false

section
variable {P : Program} {num : Nat → Nat} {o : Oper} {ρ : Nat → AV} {h : Heap} {nx nx' : Nat} {p : Prop} {v : AV} {fp : FP}

theorem setBlk_io (w : World) (b : Nat) (o : Obj) : SameIo w (World.setBlk w b o) := ⟨rfl, rfl, rfl⟩

/-- One named row turns, in its own block, with no more blocks than it had; its place stays. -/
theorem Turns.one {e : Env} {L0 : List Nat} {H : Nat → Option Row} {Lf : Nat → List Nat} {nm : Nat} {row row' : Row} {w' : World} {L' : List Nat} {b : Nat} (hk : Ok e L0 H Lf) (hrow : H nm = some row) (hb : b ∈ Lf nm)
    (hio : SameIo e.w w') (hs : w'.heap.size = e.w.heap.size) (hw : ∀ c, c ≠ b → w'.heap[c]? = e.w.heap[c]?) (hr : RowAt { e with w := w' } nm row' L') (hnd : L'.Nodup) (hsub : ∀ c ∈ L', c ∈ Lf nm) :
    Turns e H Lf (fun n => n ∈ ([(nm, some row, some row')] : FP).map (·.1)) { e with w := w' } (upH H [(nm, some row, some row')]) (fun n => if n = nm then L' else Lf n) := by
  have hF : ∀ n, n ∈ ([(nm, some row, some row')] : FP).map (·.1) ↔ n = nm := by simp
  have hH : ∀ n, upH H [(nm, some row, some row')] n = if n = nm then some row' else H n := fun n => rfl
  refine { num := rfl, w0 := rfl, Fr := rfl, Bo := rfl, io := hio, size := by simp [hs], keep := ?_, φ := fun _ _ => rfl, φF := fun _ _ _ => .inl rfl, rest := ?_, row := ?_, nodup := ?_, blk := ?_, dis := ?_, dead := ?_ }
  · intro c _ hc
    exact hw c (fun he => hc nm ((hF nm).2 rfl) (by simp [hrow]) (he ▸ hb))
  · intro n hn
    rw [hH, if_neg (fun he => hn ((hF n).2 he))]
  · intro n r hn hr'
    obtain rfl := (hF n).1 hn
    rw [hH, if_pos rfl] at hr'
    simp only [Option.some.injEq] at hr'
    subst hr'
    simpa using hr
  · intro n hn _
    obtain rfl := (hF n).1 hn
    simpa using hnd
  · intro n hn _ c hc
    obtain rfl := (hF n).1 hn
    simp only [if_true] at hc
    exact ⟨by simp only [hs]; exact (hk.rh.blk n (by simp [hrow]) c (hsub c hc)).1, .inr ⟨n, hn, by simp [hrow], hsub c hc⟩⟩
  · intro n m hn hm _ _ hne
    exact absurd (((hF n).1 hn).trans ((hF m).1 hm).symm) hne
  · intro n hn hno
    obtain rfl := (hF n).1 hn
    rw [hH, if_pos rfl] at hno
    simp at hno

theorem tri_store {n : Nat} {x z : Arg} {nm i f : Nat} {row : Row} (hc : chkOp P num (.store n x z) o.op = true) (hx : x.ev ρ = .ptr nm i f) (hi : i < row.2.length) (hf : f + n ≤ (row.2.getD i []).length)
    (hz : (cellsOf (z.ev ρ)).length = n) (hzo : (cellsOf (z.ev ρ)).all cellOk = true) :
    Tri P num o ρ .any [(nm, some row, some (row.1, row.2.set i (splice (row.2.getD i []) f (cellsOf (z.ev ρ)))))] := by
  simp only [chkOp] at hc
  split at hc
  · rename_i t y u hop
    simp only [Bool.and_eq_true] at hc
    obtain ⟨⟨h1, h2⟩, h3⟩ := hc
    obtain ⟨ti, hti, hs⟩ := sizeIs_some h3
    intro e L0 H Lf A a K Q hn hk hpre hbt hbh hfr ht k
    subst hn
    have hrow : H nm = some row := hpre _ List.mem_cons_self
    have hr := hk.rh.row nm row hrow
    have g := RV_arg (ρ := ρ) ht h1
    rw [hx] at g
    have gz := cells_value hzo (RV_arg (ρ := ρ) ht h2)
    have gzl := RVs_length gz
    obtain ⟨q, hq, g2⟩ := ptr_at hr g
    have hr' := hr
    unfold RowAt RowSp at hr'
    rw [hq] at hr'
    obtain ⟨q1, q2, Lr, q3, q4⟩ := hr'
    obtain ⟨vs, L1, L2, L3, r1, r2, r3, r4, r5, r6, r7, r8, r9⟩ := at_cells q1 q3 hi hf
    obtain ⟨La, Lm, Lc, s1, s2, s3, s4⟩ := RVs_split3 f n r4 hf
    have hrb := hbh nm row hrow
    have hrb1 : bnds A (row.2.getD i []) := by rw [getD_get hi]; exact bndr_iff.1 hrb _ (List.getElem_mem hi)
    obtain ⟨sz0, q5, arr, ty, q6, q7⟩ := q2
    have husz : (a.eval u).cells.size = n := by simp at gzl; omega
    have husl : (a.eval u).cells.toList.length = n := by simpa using husz
    have hroom : q.off + i * q.sz + f + n ≤ arr.size := by
      have h5 : (i + 1) * q.sz ≤ q.cap * q.sz := Nat.mul_le_mul_right _ (by omega)
      rw [Nat.add_mul] at h5
      have h6 := r1.1
      omega
    have hrun : (execOp a.eval o).run P e.w = .ok .skip (World.setBlk e.w q.block (.cells (arrSet arr (q.off + i * q.sz + f) (a.eval u).cells.toList) ty (0, 0))) := by
      simp only [execOp, hop, g2, Sem.run_bind, Instr.storeAt, Instr.sureAddr, Sem.run_pure, Result.andThen_ok]
      rw [run_storeVar hti (by rw [hs]; exact husz) q6 (cells_one hzo gz) (by rw [hs]; exact hroom)]
      rfl
    have hbl : q.block < e.w.heap.size := (Array.getElem?_eq_some_iff.1 q6).1
    have hLf : Lf nm = q.block :: (L1 ++ ((La ++ (Lm ++ Lc)) ++ L3)) := by rw [q4, r7, s1]
    have hnd := hk.rh.nodup nm (by simp [hrow])
    rw [hLf] at hnd
    have hnb : ∀ b ∈ L1 ++ ((La ++ (Lm ++ Lc)) ++ L3), b ≠ q.block := fun b hb he => (List.nodup_cons.1 hnd).1 (he ▸ hb)
    have kp : ∀ L : List Nat, (∀ b ∈ L, b ∈ L1 ++ ((La ++ (Lm ++ Lc)) ++ L3)) → Keeps e { e with w := World.setBlk e.w q.block (.cells (arrSet arr (q.off + i * q.sz + f) (a.eval u).cells.toList) ty (0, 0)) } A L := fun L hL => {
      num := rfl
      fr := fun m b h => by cases m <;> exact h
      cells := fun b _ o => rfl
      φ := fun nm hA => .inl rfl
      own := fun b hb => setBlk_other _ _ _ _ (fun he => hnb b (hL b hb) he.symm) }
    have hblk : (World.setBlk e.w q.block (.cells (arrSet arr (q.off + i * q.sz + f) (a.eval u).cells.toList) ty (0, 0))).heap[q.block]? = some (.cells (arrSet arr (q.off + i * q.sz + f) (a.eval u).cells.toList) ty (0, 0)) := setBlk_at _ _ _ hbl
    have hcell : ∀ j, j < q.off + i * q.sz + f ∨ q.off + i * q.sz + f + n ≤ j → (World.setBlk e.w q.block (.cells (arrSet arr (q.off + i * q.sz + f) (a.eval u).cells.toList) ty (0, 0))).cell? ⟨q.block, j, none⟩ = e.w.cell? ⟨q.block, j, none⟩ := by
      intro j hj
      rw [cell_blk hblk, cell_blk q6, arrSet_other _ _ _ _ (by rw [husl]; exact hj)]
    refine wp_skipped hrun (k _ _ undef (Turns.one (b := q.block) (L' := q.block :: (L1 ++ ((La ++ Lc) ++ L3))) hk hrow (by rw [hLf]; simp) (setBlk_io _ _ _) (setBlk_size _ _ _) (fun c hc => setBlk_other _ _ _ _ (fun he => hc he.symm)) ?_ ?_ ?_) (by simp [RV]))
    · unfold RowAt RowSp
      simp only [hq]
      refine ⟨q1, ⟨sz0, by simpa using q5, _, ty, hblk, by rw [arrSet_size]; exact q7⟩, _, ?_, rfl⟩
      have hb1 : bndr A (row.2.take i) := bndr_iff.2 fun r hr => bndr_iff.1 hrb r (List.mem_of_mem_take hr)
      have hb3 : bndr A (row.2.drop (i + 1)) := bndr_iff.2 fun r hr => bndr_iff.1 hrb r (List.mem_of_mem_drop hr)
      have htl : (row.2.take i).length = i := by simp; omega
      have hdl : (row.2.drop (i + 1)).length = row.2.length - (i + 1) := by simp
      have m1 : (i + 1) * q.sz = i * q.sz + q.sz := by rw [Nat.add_mul]; omega
      have r11 := r1.1
      have hrlen : (splice (row.2.getD i []) f (cellsOf (z.ev ρ))).length = q.sz ∧ (splice (row.2.getD i []) f (cellsOf (z.ev ρ))).all cellOk = true := by
        refine ⟨by rw [← r1.1]; exact splice_length _ _ _ (by rw [hz]; exact hf), ?_⟩
        unfold splice
        simp only [List.all_append, Bool.and_eq_true]
        exact ⟨⟨List.all_eq_true.2 fun c hc => List.all_eq_true.1 r1.2 c (List.mem_of_mem_take hc), hzo⟩, List.all_eq_true.2 fun c hc => List.all_eq_true.1 r1.2 c (List.mem_of_mem_drop hc)⟩
      refine RRows_join (vs := vs.take f ++ (a.eval u).cells.toList ++ vs.drop (f + n)) i hi hrlen (by simp; omega) ?_ ?_
        (RRows_cells _ (fun j h1 h2 => hcell j (.inl ?_)) (RRows_keep _ (kp _ (by simp +contextual)) hb1 (fun _ _ => rfl) r5))
        (RRows_cells _ (fun j h1 h2 => hcell j (.inr ?_)) (RRows_keep _ (kp _ (by simp +contextual)) hb3 (fun _ _ => rfl) r6))
      · intro j hj
        by_cases j1 : j < f
        · rw [hcell _ (.inl (by omega)), r3 j hj, List.append_assoc, List.getElem?_append_left (by simp; omega)]
          simp [j1]
        · by_cases j2 : j < f + n
          · rw [cell_blk hblk, show q.off + i * q.sz + j = q.off + i * q.sz + f + (j - f) by omega, arrSet_at _ _ _ _ (by omega) (by rw [husl]; exact hroom)]
            have e1 : (vs.take f).length = f := by simp; omega
            rw [List.append_assoc, List.getElem?_append_right (by omega), e1, List.getElem?_append_left (by omega)]
          · rw [hcell _ (.inr (by omega)), r3 j hj]
            have e1 : (vs.take f ++ (a.eval u).cells.toList).length = f + n := by rw [List.length_append, husl]; simp; omega
            rw [List.getElem?_append_right (by omega), e1]
            simp
            congr 1
            omega
      · unfold splice
        rw [hz]
        refine (RVs_append _ _).2 ⟨_, _, La, Lc, rfl, rfl, (RVs_append _ _).2 ⟨_, _, La, [], rfl, by simp, ?_, ?_⟩, ?_⟩
        · exact RVs_keep _ (kp _ (by simp +contextual)) (bnds_iff.2 fun c hc => bnds_iff.1 hrb1 c (List.mem_of_mem_take hc)) s2
        · exact RVs_keep _ (kp _ (by simp)) (cellsOf_bnd (arg_bnd hbt h2)) gz
        · exact RVs_keep _ (kp _ (by simp +contextual)) (bnds_iff.2 fun c hc => bnds_iff.1 hrb1 c (List.mem_of_mem_drop hc)) s4
      · rw [htl] at h2
        omega
      · omega
    · exact hnd.sublist (List.Sublist.cons_cons _ ((List.Sublist.refl _).append (((List.Sublist.refl _).append (List.sublist_append_right _ _)).append (List.Sublist.refl _))))
    · intro b hb
      rw [hLf]
      simp only [List.mem_cons, List.mem_append] at hb ⊢
      rcases hb with h | h | (h | h) | h
      · exact .inl h
      · exact .inr (.inl h)
      · exact .inr (.inr (.inl (.inl h)))
      · exact .inr (.inr (.inl (.inr (.inr h))))
      · exact .inr (.inr (.inr h))
  · simp at hc

end
end Go.Sep
