/- A new row: what an operation that makes one leaves. -/
import Derived.Test.YtoijhndfkfliiaaOps4
namespace Go.Sep
set_option linter.unusedVariables false
set_option linter.unusedSimpArgs false

/-- Values that are rows, one behind the other. -/
def FlatV (e : Env) (sz : Nat) : List (List AV) → List Value → List Nat → Prop
  | [], vs, L => vs = [] ∧ L = []
  | r :: rs, vs, L => ∃ v1 v2 L1 L2, vs = v1 ++ v2 ∧ (r.length = sz ∧ r.all cellOk = true) ∧ RVs e r v1 L1 ∧ FlatV e sz rs v2 L2 ∧ L = L1 ++ L2

theorem FlatV_length {e : Env} {sz : Nat} : ∀ {rows : List (List AV)} {vs : List Value} {L : List Nat}, FlatV e sz rows vs L → vs.length = rows.length * sz
  | [], _, _, h => by simp only [FlatV] at h; simp [h.1]
  | r :: rs, _, _, h => by
    simp only [FlatV] at h
    obtain ⟨v1, v2, L1, L2, rfl, h1, h2, h3, rfl⟩ := h
    rw [List.length_append, RVs_length h2, FlatV_length h3, h1.1, List.length_cons, Nat.add_mul]
    omega

theorem FlatV_append {e : Env} {sz : Nat} : ∀ {xs ys : List (List AV)} {vs us : List Value} {L M : List Nat}, FlatV e sz xs vs L → FlatV e sz ys us M → FlatV e sz (xs ++ ys) (vs ++ us) (L ++ M)
  | [], ys, vs, us, L, M, h1, h2 => by simp only [FlatV] at h1; obtain ⟨rfl, rfl⟩ := h1; exact h2
  | r :: rs, ys, vs, us, L, M, h1, h2 => by
    simp only [FlatV] at h1
    obtain ⟨v1, v2, L1, L2, rfl, g1, g2, g3, rfl⟩ := h1
    simp only [List.cons_append, FlatV]
    exact ⟨v1, v2 ++ us, L1, L2 ++ M, by simp, g1, g2, FlatV_append g3 h2, by simp⟩

theorem FlatV_keep {e e' : Env} {A : Nat → Prop} {sz : Nat} : ∀ {rows : List (List AV)} {vs : List Value} {L : List Nat}, Keeps e e' A L → bndr A rows → FlatV e sz rows vs L → FlatV e' sz rows vs L
  | [], _, _, _, _, h => h
  | r :: rs, _, _, k, hb, h => by
    simp only [FlatV] at h ⊢
    obtain ⟨v1, v2, L1, L2, rfl, g1, g2, g3, rfl⟩ := h
    exact ⟨v1, v2, L1, L2, rfl, g1, RVs_keep r (k.sub (by simp +contextual)) hb.1 g2, FlatV_keep (k.sub (by simp +contextual)) hb.2 g3, rfl⟩

theorem FlatV_rows {e : Env} {W : World} {b sz : Nat} : ∀ {rows : List (List AV)} {vs : List Value} {L : List Nat} {o : Nat}, FlatV e sz rows vs L → (∀ j, j < vs.length → W.cell? ⟨b, o + j, none⟩ = vs[j]?) → RRows e W b o sz rows L
  | [], _, _, _, h, _ => by simp only [FlatV] at h; simp only [RRows]; exact h.2
  | r :: rs, _, _, o, h, hc => by
    simp only [FlatV] at h
    obtain ⟨v1, v2, L1, L2, rfl, g1, g2, g3, rfl⟩ := h
    have hl := RVs_length g2
    simp only [RRows]
    refine ⟨v1, L1, L2, g1, by omega, fun j hj => ?_, g2, FlatV_rows g3 (fun j hj => ?_), rfl⟩
    · rw [hc j (by simp; omega), List.getElem?_append_left (by omega)]
    · have := hc (sz + j) (by simp; omega)
      rw [← Nat.add_assoc] at this
      rw [this, List.getElem?_append_right (by omega)]
      congr 1
      omega

theorem rows_FlatV {e : Env} {W : World} {b sz : Nat} : ∀ {rows : List (List AV)} {L : List Nat} {o : Nat}, RRows e W b o sz rows L → ∃ vs, FlatV e sz rows vs L ∧ ∀ j, j < vs.length → W.cell? ⟨b, o + j, none⟩ = vs[j]?
  | [], _, _, h => by simp only [RRows] at h; exact ⟨[], ⟨rfl, h⟩, by simp⟩
  | r :: rs, _, o, h => by
    simp only [RRows] at h
    obtain ⟨v1, L1, L2, h1, h2, h3, h4, h5, rfl⟩ := h
    obtain ⟨v2, h6, h7⟩ := rows_FlatV h5
    refine ⟨v1 ++ v2, ⟨v1, v2, L1, L2, rfl, h1, h4, h6, rfl⟩, fun j hj => ?_⟩
    by_cases hjs : j < sz
    · rw [h3 j hjs, List.getElem?_append_left (by omega)]
    · rw [List.getElem?_append_right (by omega), h2]
      have := h7 (j - sz) (by simp at hj; omega)
      rw [← this]
      congr 2
      omega

theorem upH_append (H : Nat → Option Row) : ∀ (a b : FP), upH H (a ++ b) = upH (upH H a) b
  | [], b => rfl
  | (n, p, r) :: a, b => by simp only [List.cons_append, upH]; exact upH_append _ a b

theorem alloc_get {w w1 : World} {ob : Obj} (h : w1.heap = w.heap) {b : Nat} (hb : b < w.heap.size) : (w1.alloc ob).heap[b]? = w.heap[b]? := by
  simp only [World.alloc, h]
  rw [Array.getElem?_push_lt hb]
  simp [hb]

theorem alloc_new {w w1 : World} {ob : Obj} (h : w1.heap = w.heap) : (w1.alloc ob).heap[w.heap.size]? = some ob := by
  simp [World.alloc, h]

/-- One new row beside rows that are read. -/
theorem Tri.of_new {P : Program} {num : Nat → Nat} {o : Oper} {ρ : Nat → AV} {v : AV} {rd : FP} {nx sz : Nat} {rows : List (List AV)} (hrd : ∀ x ∈ rd, x.2.2 = x.2.1) (hnx : nx ∉ rd.map (·.1))
    (h : ∀ (e : Env) (L0 : List Nat) (H : Nat → Option Row) (Lf : Nat → List Nat) (A : Nat → Prop) (a : Act), e.num = num → Ok e L0 H Lf → (∀ x ∈ rd, H x.1 = x.2.1) → (∀ t, bnd A (ρ t)) → (∀ nm row, H nm = some row → bndr A row.2) →
      (∀ t, RV e (ρ t) (a.tmps.getD t undef) []) →
      ∃ (w1 : World) (arr : Array Value) (ty cap : Nat) (vals : List Value) (v' : Value), (execOp a.eval o).run P e.w = .ok (.value v') (w1.alloc (.cells arr ty)) ∧ (w1.heap = e.w.heap ∧ SameIo e.w w1) ∧ bndr A rows ∧ FlatV e sz rows vals [] ∧ (∀ j, j < vals.length → arr[j]? = vals[j]?) ∧
        0 < sz ∧ rows.length ≤ cap ∧ cap * sz ≤ arr.size ∧ (∀ e' : Env, e'.φ nx = .at ⟨e.w.heap.size, 0, cap, sz⟩ → RV e' v v' [])) :
    Tri P num o ρ v (rd ++ [(nx, none, some (sz, rows))]) := by
  intro e L0 H Lf A a K Q hn hk hpre hbt hbh hfr ht k
  obtain ⟨w1, arr, ty, cap, vals, v', hr, ⟨hw, hio⟩, hb, hfl, hc, hsz, hcap, hroom, hv⟩ := h e L0 H Lf A a hn hk (fun x hx => hpre x (by simp [hx])) hbt hbh ht
  have hnone : H nx = none := hpre (nx, none, some (sz, rows)) (by simp)
  have hnA : ¬ A nx := hfr (nx, none, some (sz, rows)) (by simp) rfl
  let e' : Env := { e with w := w1.alloc (.cells arr ty), φ := fun n => if n = nx then .at ⟨e.w.heap.size, 0, cap, sz⟩ else e.φ n }
  have φn : ∀ nm, nm ≠ nx → e'.φ nm = e.φ nm := fun nm h => if_neg h
  have φx : e'.φ nx = .at ⟨e.w.heap.size, 0, cap, sz⟩ := if_pos rfl
  have hH : ∀ n, upH H (rd ++ [(nx, none, some (sz, rows))]) n = if n = nx then some (sz, rows) else H n := by
    intro n
    rw [upH_append, upH_same (fun x hx => hpre x (by simp [hx])) hrd]
    rfl
  have hsize : e'.w.heap.size = e.w.heap.size + 1 := by
    show (w1.alloc _).heap.size = _
    simp [hw]
  have keep : ∀ b, b < e.w.heap.size → e'.w.heap[b]? = e.w.heap[b]? := fun b hb => alloc_get hw hb
  have kp : ∀ L : List Nat, (∀ b ∈ L, b < e.w.heap.size) → Keeps e e' A L := fun L hL => {
    num := rfl
    fr := fun m b h => by cases m <;> exact h
    cells := fun b _ o => rfl
    φ := fun nm hA => .inl (φn nm (fun he => hnA (he ▸ hA)))
    own := fun b hb => keep b (hL b hb) }
  have hother : ∀ nm row, nm ≠ nx → H nm = some row → RowAt e' nm row (Lf nm) := fun nm row hne hrow =>
    (hk.rh.row nm row hrow).keep (kp _ (fun b hb => (hk.rh.blk nm (by simp [hrow]) b hb).1)) (φn nm hne) (hbh nm row hrow)
  refine wp_value (w' := e'.w) hr (k e' (fun n => if n = nx then [e.w.heap.size] else Lf n) v' ?_ (hv e' φx))
  refine { num := rfl, w0 := rfl, Fr := rfl, Bo := rfl, io := hio, size := by omega, keep := fun b hb _ => keep b hb, φ := ?_, φF := ?_, rest := ?_, row := ?_, nodup := ?_, blk := ?_, dis := ?_, dead := ?_ }
  · intro nm hF
    exact φn nm (fun he => hF (by simp [he]))
  · intro nm _ hne
    exact .inl (φn nm (fun he => hne (he ▸ hnone)))
  · intro nm hF
    rw [hH, if_neg (fun he => hF (by simp [he]))]
  · intro nm row _ hrow
    rw [hH] at hrow
    by_cases hne : nm = nx
    · subst hne
      rw [if_pos rfl] at hrow
      simp only [Option.some.injEq] at hrow
      subst hrow
      simp only [if_true]
      have hblk : e'.w.heap[e.w.heap.size]? = some (.cells arr ty (0, 0)) := alloc_new hw
      unfold RowAt RowSp
      rw [φx]
      refine ⟨rfl, ⟨hsz, hcap, arr, ty, hblk, by simpa using hroom⟩, [], ?_, rfl⟩
      refine FlatV_rows (FlatV_keep (kp [] (by simp)) hb hfl) (fun j hj => ?_)
      rw [cell_blk hblk, Nat.zero_add]
      exact hc j hj
    · rw [if_neg hne] at hrow
      simp only [if_neg hne]
      exact hother nm row hne hrow
  · intro nm _ hne
    rw [hH] at hne
    by_cases he : nm = nx
    · simp [he]
    · rw [if_neg he] at hne
      simp only [if_neg he]
      exact hk.rh.nodup nm hne
  · intro nm hF hne b hb
    rw [hH] at hne
    by_cases he : nm = nx
    · simp only [if_pos he, List.mem_singleton] at hb
      exact ⟨by omega, .inl (by omega)⟩
    · rw [if_neg he] at hne
      simp only [if_neg he] at hb
      exact ⟨by have := (hk.rh.blk nm hne b hb).1; omega, .inr ⟨nm, hF, hne, hb⟩⟩
  · intro n m _ _ hn hm hne b hb1 hb2
    rw [hH] at hn hm
    by_cases h1 : n = nx <;> by_cases h2 : m = nx
    · exact hne (h1.trans h2.symm)
    · simp only [if_pos h1, if_neg h2, List.mem_singleton] at hb1 hb2 hm
      have := (hk.rh.blk m hm b hb2).1; omega
    · simp only [if_pos h2, if_neg h1, List.mem_singleton] at hb1 hb2 hn
      have := (hk.rh.blk n hn b hb1).1; omega
    · simp only [if_neg h1, if_neg h2] at hb1 hb2 hn hm
      exact hk.rh.dis n m hn hm hne b hb1 hb2
  · intro nm _ hno
    rw [hH] at hno
    by_cases he : nm = nx
    · simp [he] at hno
    · rw [if_neg he] at hno
      rw [φn nm he]
      exact hk.rh.dead nm hno

section
variable {P : Program} {num : Nat → Nat} {o : Oper} {ρ : Nat → AV} {h : Heap} {nx nx' : Nat} {p : Prop} {v : AV} {fp : FP}

mutual
theorem chkV_bnd {A : Nat → Prop} : ∀ {d : AV} {v : Value}, chkV d v = true → bnd A d
  | .agg ds, v, h => by
    simp only [chkV] at h
    split at h
    · exact chkVs_bnd h
    · simp at h
  | .bool _, _, _ | .int _ _, _, _ | .str _, _, _ | .nil, _, _ | .nilp, _, _ | .nilI, _, _ => trivial
  | .any, _, h | .fn _ _, _, h | .ptr _ _ _, _, h | .fptr _ _ _, _, h | .ifc, _, h | .ns _ _ _, _, h | .sl _ _ _, _, h | .tup _, _, h => by simp [chkV] at h
theorem chkVs_bnd {A : Nat → Prop} : ∀ {ds : List AV} {vs : List Value}, chkVs ds vs = true → bnds A ds
  | [], _, _ => trivial
  | d :: ds, vs, h => by
    cases vs with
    | nil => simp [chkVs] at h
    | cons v vs =>
      simp only [chkVs, Bool.and_eq_true] at h
      exact ⟨chkV_bnd h.1, chkVs_bnd h.2⟩
end

theorem arg_bnd {A : Nat → Prop} {x : Operand} {y : Arg} (ht : ∀ t, bnd A (ρ t)) (h : chkA num x y = true) : bnd A (y.ev ρ) := by
  cases y with
  | t n => exact ht n
  | c d =>
    cases x with
    | tmp t => simp [chkA] at h
    | const v => exact chkV_bnd h
    | global g => simp [chkA] at h
    | func f =>
      cases d with
      | fn g cap => cases cap <;> simp [chkA] at h; trivial
      | _ => simp [chkA] at h

theorem cellsOf_bnd {A : Nat → Prop} {v : AV} (h : bnd A v) : bnds A (cellsOf v) := by
  cases v <;> first | exact h | exact ⟨h, trivial⟩

theorem tri_alloc {zero : List AV} (hc : chkOp P num (.alloc zero) o.op = true) (hp : plan ρ h nx (.alloc zero) = some (p, v, fp, nx')) (h0 : p) : Tri P num o ρ v fp := by
  simp only [chkOp] at hc
  split at hc
  · rename_i t hop
    obtain ⟨i, z, hi, hs, hz, hzv, hzo⟩ := chkZero_some hc
    simp only [plan, Option.some.injEq, Prod.mk.injEq] at hp
    obtain ⟨rfl, rfl, rfl, _⟩ := hp
    refine Tri.of_new (rd := []) (by simp) (by simp) ?_
    intro e L0 H Lf A a hn hk _ _ _ ht
    have hl := RVs_length (RVs_const (e := e) hzv)
    refine ⟨e.w, z.cells, t, 1, z.cells.toList, .pointer (some ⟨e.w.heap.size, 0, none⟩), ?_, ⟨rfl, SameIo.refl _⟩, ⟨chkVs_bnd hzv, trivial⟩, ?_, ?_, h0, by simp, ?_, ?_⟩
    · simp only [execOp, hop, Sem.run_bind, Instr.alloc, run_zeroValue' hi hz, Result.andThen_ok, newVar]
      rw [run_newRow]
      rfl
    · exact ⟨z.cells.toList, [], [], [], by simp, ⟨rfl, hzo⟩, RVs_const hzv, ⟨rfl, rfl⟩, rfl⟩
    · intro j _; simp
    · simp at hl ⊢; omega
    · intro e' hφ
      simpa using RV_ptr (i := 0) (f := 0) hφ
  · simp at hc

theorem tri_box {x : Arg} (hc : chkOp P num (.box x) o.op = true) (hp : plan ρ h nx (.box x) = some (p, v, fp, nx')) (hpp : p) : Tri P num o ρ v fp := by
  simp only [chkOp] at hc
  split at hc
  · rename_i t y hop
    simp only [plan, Option.some.injEq, Prod.mk.injEq] at hp
    obtain ⟨rfl, rfl, rfl, _⟩ := hp
    obtain ⟨p1, p2⟩ := hpp
    refine Tri.of_new (rd := []) (by simp) (by simp) ?_
    intro e L0 H Lf A a hn hk _ hbt _ ht
    subst hn
    have g := cells_value p1 (RV_arg (ρ := ρ) ht hc)
    have hl := RVs_length g
    refine ⟨e.w, (a.eval y).cells, t, 1, (a.eval y).cells.toList, .pointer (some ⟨e.w.heap.size, 0, none⟩), ?_, ⟨rfl, SameIo.refl _⟩, ⟨cellsOf_bnd (arg_bnd hbt hc), trivial⟩, ?_, ?_, p2, by simp, ?_, ?_⟩
    · simp only [execOp, hop, Sem.run_bind, Instr.box, newVar]
      rw [run_newRow]
      rfl
    · exact ⟨(a.eval y).cells.toList, [], [], [], by simp, ⟨rfl, p1⟩, g, ⟨rfl, rfl⟩, rfl⟩
    · intro j _; simp
    · simp at hl ⊢; omega
    · intro e' hφ
      simpa using RV_ptr (i := 0) (f := 0) hφ
  · simp at hc

end
end Go.Sep
