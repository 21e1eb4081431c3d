/- New slices: written out, and made. -/
import Derived.Test.YtoijhndfkfliiaaNew
namespace Go.Sep
set_option linter.unusedVariables false
set_option linter.unusedSimpArgs false

theorem flatten_get {α : Type} (l : List α) : ∀ (n j : Nat), j < n * l.length → (List.replicate n l).flatten[j]? = l[j % l.length]?
  | 0, j, h => by simp at h
  | n + 1, j, h => by
    rw [List.replicate_succ, List.flatten_cons]
    by_cases hj : j < l.length
    · rw [List.getElem?_append_left hj, Nat.mod_eq_of_lt hj]
    · rw [List.getElem?_append_right (by omega), flatten_get l n (j - l.length) (by rw [Nat.add_mul] at h; omega)]
      have : j = (j - l.length) + l.length := by omega
      conv => rhs; rw [this, Nat.add_mod_right]

/-- An array of the same cells again and again. -/
theorem zeros_get {zc : Array Value} {n m : Nat} (hm : m = zc.size) (j : Nat) (hj : j < n * m) : ((Array.range (n * m)).map (zc[· % zc.size]!))[j]? = (List.replicate n zc.toList).flatten[j]? := by
  subst hm
  have hpos : 0 < zc.size := by
    rcases Nat.eq_zero_or_pos zc.size with h | h
    · simp [h] at hj
    · exact h
  have h1 := Nat.mod_lt j hpos
  rw [flatten_get zc.toList n j (by simpa using hj)]
  simp [hj, h1]

theorem FlatV_replicate {e : Env} {sz : Nat} {z : List AV} {zc : List Value} (h : RVs e z zc []) (hs : z.length = sz ∧ z.all cellOk = true) : ∀ (n : Nat), FlatV e sz (List.replicate n z) (List.replicate n zc).flatten []
  | 0 => ⟨rfl, rfl⟩
  | n + 1 => by
    rw [List.replicate_succ, List.replicate_succ, List.flatten_cons]
    exact ⟨zc, _, [], [], rfl, hs, h, FlatV_replicate h hs n, rfl⟩

theorem FlatV_set {e : Env} {sz : Nat} {r : List AV} {us : List Value} (hr : RVs e r us []) (hs : r.length = sz ∧ r.all cellOk = true) : ∀ {rows : List (List AV)} {vs : List Value} (i : Nat), i < rows.length → FlatV e sz rows vs [] →
    FlatV e sz (rows.set i r) (vs.take (i * sz) ++ us ++ vs.drop (i * sz + us.length)) []
  | [], _, i, hi, _ => by simp at hi
  | q :: rows, vs, i, hi, h => by
    simp only [FlatV] at h
    obtain ⟨v1, v2, L1, L2, rfl, h1, h2, h3, h4⟩ := h
    obtain ⟨rfl, rfl⟩ := nil_of_append h4
    have hl := RVs_length h2
    have hu := RVs_length hr
    cases i with
    | zero =>
      simp only [List.set_cons_zero, FlatV]
      refine ⟨us, v2, [], [], ?_, hs, hr, h3, rfl⟩
      rw [hu, hs.1, ← h1.1, ← hl]
      simp
    | succ i =>
      simp only [List.set_cons_succ, FlatV]
      refine ⟨v1, _, [], [], ?_, h1, h2, FlatV_set hr hs i (by simpa using hi) h3, rfl⟩
      have e1 : (i + 1) * sz = v1.length + i * sz := by rw [Nat.add_mul]; omega
      rw [e1, List.take_append, List.drop_append, List.take_of_length_le (by omega), List.drop_of_length_le (by omega)]
      have e2 : v1.length + i * sz - v1.length = i * sz := by omega
      have e3 : v1.length + i * sz + us.length - v1.length = i * sz + us.length := by omega
      rw [e2, e3]
      simp

section
variable {P : Program} {num : Nat → Nat} {o : Oper} {ρ : Nat → AV} {h : Heap} {nx nx' : Nat} {p : Prop} {v : AV} {fp : FP}

theorem fill_rows {e : Env} {a : Act} {sz n : Nat} (ht : ∀ t, RV e (ρ t) (a.tmps.getD t undef) []) : ∀ (parts : List (Nat × Arg)) (ps : List (Nat × Operand)) (rows : List (List AV)) (arr : Array Value), chkRows e.num ps parts = true →
      fillROk ρ n sz parts → rows.length = n → FlatV e sz rows arr.toList [] → ∃ arr', Instr.fill (fun i => some (i * sz, sz)) arr (ps.map fun x => (x.1, a.eval x.2)) = some arr' ∧ FlatV e sz (fillR ρ rows parts) arr'.toList []
  | [], ps, rows, arr, hc, _, _, h => by
    cases ps with
    | nil => exact ⟨arr, rfl, h⟩
    | cons => simp [chkRows] at hc
  | (i, y) :: parts, ps, rows, arr, hc, hf, hn, h => by
    cases ps with
    | nil => simp [chkRows] at hc
    | cons q ps =>
      obtain ⟨j, x⟩ := q
      simp only [chkRows, Bool.and_eq_true, beq_iff_eq] at hc
      obtain ⟨⟨rfl, h2⟩, h3⟩ := hc
      simp only [fillROk] at hf
      obtain ⟨⟨f1, f2, f3⟩, f4⟩ := hf
      have g := cells_value f3 (RV_arg (ρ := ρ) ht h2)
      have gl := RVs_length g
      have hl := FlatV_length h
      have hmul : (j + 1) * sz ≤ n * sz := Nat.mul_le_mul_right _ f1
      rw [Nat.add_mul] at hmul
      have harr : arr.size = n * sz := by rw [← hn]; simpa using hl
      have hus : (a.eval x).cells.toList.length = sz := by omega
      have hs := arrSet_list arr (j * sz) (a.eval x).cells.toList (by rw [harr, hus]; omega)
      have hr : FlatV e sz (rows.set j (cellsOf (y.ev ρ))) (arrSet arr (j * sz) (a.eval x).cells.toList).toList [] := by
        rw [hs]
        exact FlatV_set g ⟨f2, f3⟩ j (by omega) h
      obtain ⟨arr', h6, h7⟩ := fill_rows ht parts ps _ _ h3 f4 (by simpa using hn) hr
      refine ⟨arr', ?_, h7⟩
      simp only [List.map_cons, Instr.fill]
      have hsz : (a.eval x).cells.size = sz := by simpa using hus
      have hcond : ¬ (((a.eval x).cells.size ≠ sz || j * sz + (a.eval x).cells.size > arr.size) = true) := by
        simp [hsz, harr]; omega
      rw [if_neg hcond]
      have hz : (a.eval x).cells.zipIdx.foldl (fun cs (c, k) => cs.setIfInBounds (j * sz + k) c) arr = arrSet arr (j * sz) (a.eval x).cells.toList := by
        rw [← Array.foldl_toList, Array.toList_zipIdx, fold_arrSet]
        simp
      rw [hz]
      exact h6

theorem fillR_bnd {A : Nat → Prop} (ht : ∀ t, bnd A (ρ t)) : ∀ (parts : List (Nat × Arg)) (ps : List (Nat × Operand)) (rows : List (List AV)), chkRows num ps parts = true → bndr A rows → bndr A (fillR ρ rows parts)
  | [], _, rows, _, hb => hb
  | (i, y) :: parts, ps, rows, hc, hb => by
    cases ps with
    | nil => simp [chkRows] at hc
    | cons q ps =>
      obtain ⟨j, x⟩ := q
      simp only [chkRows, Bool.and_eq_true] at hc
      simp only [fillR]
      refine fillR_bnd ht parts ps _ hc.2 ?_
      rw [bndr_iff] at hb ⊢
      intro r hr
      rcases List.mem_or_eq_of_mem_set hr with h | h
      · exact hb r h
      · rw [h]; exact cellsOf_bnd (arg_bnd ht hc.1.2)

theorem fillR_length {l : List (Nat × Arg)} : ∀ {rows : List (List AV)}, (fillR ρ rows l).length = rows.length := by
  induction l with
  | nil => intro rows; rfl
  | cons x l ih => obtain ⟨i, y⟩ := x; intro rows; simp [fillR, ih]

theorem replicate_bnd {A : Nat → Prop} {z : List AV} (h : bnds A z) (n : Nat) : bndr A (List.replicate n z) := by
  rw [bndr_iff]
  intro r hr
  rw [(List.mem_replicate.1 hr).2]
  exact h

theorem RV_ns0 {e : Env} {nm len : Nat} {q : Place} (hq : e.φ nm = .at q) (h0 : q.off = 0) (hl : len ≤ q.cap) : RV e (.ns nm 0 len) (.slice (some ⟨q.block, 0, none⟩) len q.cap) [] := by
  simp only [RV, hq, true_and]
  exact ⟨by omega, _, rfl, fun _ => by simp [h0]⟩

theorem tri_mkSl {zero : List AV} {len : Nat} {parts : List (Nat × Arg)} (hc : chkOp P num (.mkSl zero len parts) o.op = true) (hp : plan ρ h nx (.mkSl zero len parts) = some (p, v, fp, nx')) (hpp : p) : Tri P num o ρ v fp := by
  simp only [chkOp] at hc
  split at hc
  · rename_i t l ps hop
    simp only [Bool.and_eq_true, beq_iff_eq] at hc
    obtain ⟨rfl, hc⟩ := hc
    cases hel : elemOf? P t with
    | none => simp [hel] at hc
    | some el =>
      simp only [hel, Bool.and_eq_true, decide_eq_true_eq] at hc
      obtain ⟨⟨⟨h1, h2⟩, h3⟩, h4⟩ := hc
      obtain ⟨i, z, hi, hs, hz, hzv, hzo⟩ := chkZero_some h1
      simp only [plan, Option.some.injEq, Prod.mk.injEq] at hp
      obtain ⟨rfl, rfl, rfl, _⟩ := hp
      refine Tri.of_new (rd := []) (by simp) (by simp) ?_
      intro e L0 H Lf A a hn hk _ hbt _ ht
      subst hn
      have hzl := RVs_length (RVs_const (e := e) hzv)
      have hzs : z.cells.size = zero.length := by simpa using hzl
      have hf0 : FlatV e zero.length (List.replicate l zero) ((Array.range (l * zero.length)).map (z.cells[· % z.cells.size]!)).toList [] := by
        have := FlatV_replicate (e := e) (RVs_const hzv) ⟨rfl, hzo⟩ l
        have e1 : ((Array.range (l * zero.length)).map (z.cells[· % z.cells.size]!)).toList = (List.replicate l z.cells.toList).flatten := by
          apply List.ext_getElem?
          intro j
          by_cases hj : j < l * zero.length
          · rw [Array.getElem?_toList]
            exact zeros_get hzs.symm j hj
          · rw [List.getElem?_eq_none (by simp; omega), List.getElem?_eq_none (by simp [hzs]; omega)]
        rw [e1]
        exact this
      obtain ⟨arr', g1, g2⟩ := fill_rows (n := l) ht parts ps.toList _ _ h4 hpp (by simp) hf0
      have hl2 := FlatV_length g2
      rw [fillR_length] at hl2
      simp only [List.length_replicate, Array.length_toList] at hl2
      refine ⟨e.w, arr', el, l, arr'.toList, .slice (some ⟨e.w.heap.size, 0, none⟩) l l, ?_, ⟨rfl, SameIo.refl _⟩, fillR_bnd hbt parts ps.toList _ h4 (replicate_bnd (chkVs_bnd hzv) l), g2, ?_, h2, ?_, ?_, ?_⟩
      · simp only [execOp, hop, Sem.run_bind, Instr.buildSlice, run_underlying' (elemOf_some hel), Result.andThen_ok, run_sizeOf' hi, hs]
        rw [if_neg (by omega)]
        have e2 : (ps.map fun (i, x) => (i, a.eval x)).toList = ps.toList.map fun x => (x.1, a.eval x.2) := by simp
        by_cases hl0 : l * zero.length = 0
        · rw [if_pos hl0, e2]
          have hl1 : l = 0 := by rcases Nat.mul_eq_zero.1 hl0 with h | h <;> omega
          simp only [hl0] at g1
          simp only [Sem.run_bind, Sem.run_pure, Result.andThen_ok, hl0]
          have e3 : (Array.range 0).map (fun x => (#[] : Array Value)[x % (#[] : Array Value).size]!) = (Array.range 0).map (z.cells[· % z.cells.size]!) := by simp
          rw [e3, g1]
          simp only [Sem.run_bind]
          rw [run_newRow]
          rfl
        · rw [if_neg hl0, e2]
          simp only [Sem.run_bind, run_zeroValue' hi hz, Result.andThen_ok, Sem.run_pure]
          rw [g1]
          simp only [Sem.run_bind]
          rw [run_newRow]
          rfl
      · intro j _; simp
      · simp [fillR_length]
      · omega
      · intro e' hφ
        exact RV_ns0 hφ rfl (Nat.le_refl _)
  · simp at hc

theorem wrap_small {n : Int} (h0 : 0 ≤ n) (h1 : n ≤ 2 ^ 47) : IntKind.i64.wrap n = n := by
  unfold IntKind.wrap
  simp only [IntKind.bits, IntKind.signed]
  have : n % (2 ^ 64 : Int) = n := Int.emod_eq_of_lt h0 (by omega)
  simp only [this]
  rw [if_neg]
  simp
  omega

theorem tri_mkS {zero : List AV} {bytes : Nat} {l c : Arg} (hc : chkOp P num (.mkS zero bytes l c) o.op = true) (hp : plan ρ h nx (.mkS zero bytes l c) = some (p, v, fp, nx')) (hpp : p) : Tri P num o ρ v fp := by
  simp only [chkOp] at hc
  split at hc
  · rename_i t l' c' hop
    simp only [Bool.and_eq_true] at hc
    obtain ⟨⟨h1, h2⟩, hc⟩ := hc
    cases hel : elemOf? P t with
    | none => simp [hel] at hc
    | some el =>
      simp only [hel, Bool.and_eq_true, decide_eq_true_eq] at hc
      obtain ⟨⟨h3, h4⟩, h5⟩ := hc
      obtain ⟨i, z, hi, hs, hz, hzv, hzo⟩ := chkZero_some h3
      obtain ⟨i', hi', hb⟩ := bytesIs_some h5
      rw [hi] at hi'
      simp only [Option.some.injEq] at hi'
      subst hi'
      simp only [plan] at hp
      split at hp
      · rename_i m n hx hy
        simp only [Option.some.injEq, Prod.mk.injEq] at hp
        obtain ⟨rfl, rfl, rfl, _⟩ := hp
        obtain ⟨rfl, p2, p3, p4⟩ := hpp
        refine Tri.of_new (rd := []) (by simp) (by simp) ?_
        intro e L0 H Lf A a hn hk _ hbt _ ht
        subst hn
        have hzl := RVs_length (RVs_const (e := e) hzv)
        have hzs : z.cells.size = zero.length := by simpa using hzl
        have g1 := RV_arg (ρ := ρ) ht h1
        rw [hx] at g1
        have g2 := RV_arg (ρ := ρ) ht h2
        rw [hy] at g2
        have e1 := RV_int g1
        have e2 := RV_int g2
        refine ⟨e.w, (Array.range (m.toNat * zero.length)).map (z.cells[· % z.cells.size]!), el, m.toNat, (List.replicate m.toNat z.cells.toList).flatten, .slice (some ⟨e.w.heap.size, 0, none⟩) m.toNat m.toNat, ?_, ⟨rfl, SameIo.refl _⟩, replicate_bnd (chkVs_bnd hzv) _,
          FlatV_replicate (RVs_const hzv) ⟨rfl, hzo⟩ _, ?_, h4, by simp, by simp, ?_⟩
        · simp only [execOp, hop, Sem.run_bind, Instr.makeSlice, run_underlying' (elemOf_some hel), Result.andThen_ok, e1, e2, asInt, asIntOf, Sem.run_pure, run_typeInfo' hi, hb]
          have w1 := wrap_small p2 p4
          simp only [w1]
          have t0 : (decide (m < 0) || decide ((bytes : Int) * m > 2 ^ 48)) = false := by
            simp
            omega
          have t1 : ¬ ((((decide (m < 0) || decide ((bytes : Int) * m > 2 ^ 48)) || decide (m < 0)) || decide (m > m)) = true) := by
            rw [t0]; simp; omega
          rw [if_neg t1]
          simp only [Sem.run_bind, run_askRoom, Result.andThen_ok, run_sizeOf' hi, hs]
          by_cases hl0 : m.toNat * zero.length = 0
          · rw [if_pos hl0]
            simp only [Sem.run_bind, Sem.run_pure, Result.andThen_ok, hl0]
            rw [run_newRow]
            simp only [Result.andThen_ok]
            have e3 : (Array.range 0).map (fun x => (#[] : Array Value)[x % (#[] : Array Value).size]!) = (Array.range 0).map (z.cells[· % z.cells.size]!) := by simp
            rw [e3]
          · rw [if_neg hl0]
            simp only [Sem.run_bind, run_zeroValue' hi hz, Result.andThen_ok, Sem.run_pure]
            rw [run_newRow]
            rfl
        · intro j hj
          refine zeros_get hzs.symm j ?_
          have := FlatV_length (FlatV_replicate (e := e) (RVs_const hzv) ⟨rfl, hzo⟩ m.toNat)
          rw [this] at hj
          simpa using hj
        · intro e' hφ
          exact RV_ns0 hφ rfl (Nat.le_refl _)
      · simp at hp
  · simp at hc

end
end Go.Sep
