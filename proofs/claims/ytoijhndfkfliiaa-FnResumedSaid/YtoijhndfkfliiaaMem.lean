/- Loads out of named rows, which give names to slices of our own; stores into them. -/
import Derived.Test.YtoijhndfkfliiaaNew2
namespace Go.Sep
set_option linter.unusedVariables false
set_option linter.unusedSimpArgs false

/-- The place of a slice of our own, as its value tells it. -/
def spotOf (sz : Nat) : Value → Spot
  | .slice (some a) _ c => if c = 0 then .nilp else .at ⟨a.block, a.off, c, sz⟩
  | _ => .nilp

theorem openL_le : ∀ (l : List AV) (n : Nat), n ≤ (openL n l).2.2 ∧ ∀ x ∈ (openL n l).2.1, n ≤ x.1 ∧ x.1 < (openL n l).2.2
  | [], n => by simp [openL]
  | v :: l, n => by
    have h0 := openL_le l n
    have h1 := openL_le l (n + 1)
    cases v
    case sl m sz rows =>
      cases m
      · simp only [openL]
        refine ⟨by omega, fun x hx => ?_⟩
        rcases List.mem_cons.1 hx with rfl | hx
        · exact ⟨Nat.le_refl _, by show n < _; omega⟩
        · have := h1.2 x hx; omega
      all_goals simpa only [openL] using h0
    all_goals simpa only [openL] using h0

theorem openL_nodup : ∀ (l : List AV) (n : Nat), ((openL n l).2.1.map (·.1)).Nodup
  | [], n => by simp [openL]
  | v :: l, n => by
    have h0 := openL_nodup l n
    have h1 := openL_nodup l (n + 1)
    cases v
    case sl m sz rows =>
      cases m
      · simp only [openL, List.map_cons, List.nodup_cons]
        refine ⟨?_, h1⟩
        intro hm
        obtain ⟨x, hx, hxn⟩ := List.mem_map.1 hm
        have := (openL_le l (n + 1)).2 x hx
        omega
      all_goals simpa only [openL] using h0
    all_goals simpa only [openL] using h0

theorem openL_length : ∀ (l : List AV) (n : Nat), (openL n l).1.length = l.length
  | [], n => rfl
  | v :: l, n => by
    cases v
    case sl m sz rows => cases m <;> simp [openL, openL_length l]
    all_goals simp [openL, openL_length l]

theorem openL_ok : ∀ (l : List AV) (n : Nat), l.all cellOk = true → (openL n l).1.all cellOk = true
  | [], n, _ => rfl
  | v :: l, n, h => by
    simp only [List.all_cons, Bool.and_eq_true] at h
    cases v
    case sl m sz rows => cases m <;> simp [openL, openL_ok l _ h.2] <;> rfl
    all_goals (simp only [openL, List.all_cons, openL_ok l _ h.2, Bool.and_true]; exact h.1)

theorem openL_none : ∀ (l : List AV) (n : Nat), (openL n l).2.1 = [] → (openL n l).1 = l
  | [], n, _ => rfl
  | v :: l, n, h => by
    cases v
    case sl m sz rows =>
      cases m
      · simp [openL] at h
      all_goals (simp only [openL] at h ⊢; rw [openL_none l n h])
    all_goals (simp only [openL] at h ⊢; rw [openL_none l n h])

theorem cell_free {e : Env} {v : AV} {c : Value} {L : List Nat} (hv : cellOk v = true) (hs : ∀ sz rows, v ≠ .sl .own sz rows) (h : RV e v c L) : L = [] := by
  cases v
  case sl m sz rows =>
    cases m
    · exact absurd rfl (hs sz rows)
    all_goals (simp only [RV] at h; exact h.1)
  case agg => simp [cellOk] at hv
  case tup => simp [cellOk] at hv
  all_goals simp only [RV] at h
  case any => exact h
  case fn => obtain ⟨_, _, _, h⟩ := h; exact h
  all_goals first | exact h.2 | exact h.1

/-- A slice of our own, as a named row. -/
theorem own_spot {e : Env} {sz : Nat} {rows : List (List AV)} {c : Value} {L : List Nat} (h : RV e (.sl .own sz rows) c L) : RowSp e (spotOf sz c) (sz, rows) L ∧
    (∀ e' : Env, ∀ n, e'.φ n = spotOf sz c → RV e' (.ns n 0 rows.length) c []) := by
  simp only [RV] at h
  rcases h with ⟨rfl, rfl, a, rfl⟩ | ⟨p, Lr, ⟨rfl, hc⟩, rfl, h2, h3, rfl⟩
  · have hs : spotOf sz (.slice a 0 0) = .nilp := by cases a <;> simp [spotOf]
    rw [hs]
    refine ⟨⟨rfl, rfl⟩, fun e' n hφ => ?_⟩
    simp only [RV, hφ, List.length_nil, true_and]
    exact ⟨a, rfl⟩
  · have hs : spotOf p.sz (.slice (some ⟨p.block, p.off, none⟩) rows.length p.cap) = .at ⟨p.block, p.off, p.cap, p.sz⟩ := by
      simp only [spotOf]
      rw [if_neg (by omega)]
    rw [hs]
    refine ⟨⟨rfl, h2, Lr, h3, rfl⟩, fun e' n hφ => ?_⟩
    simp only [RV, hφ, true_and]
    exact ⟨by simpa using h2.2.1, _, rfl, fun _ => by simp⟩

theorem RowSp.keep {e e' : Env} {A : Nat → Prop} {s : Spot} {row : Row} {L : List Nat} (k : Keeps e e' A L) (hb : bndr A row.2) (h : RowSp e s row L) : RowSp e' s row L := by
  unfold RowSp at h ⊢
  cases s with
  | dead => exact h
  | nilp => exact h
  | «at» p =>
    obtain ⟨h0, h1, Lr, h2, rfl⟩ := h
    exact ⟨h0, h1.keep (k.own _ (by simp)), Lr, RRows_keep row.2 (k.sub (by simp +contextual)) hb (fun _ o => cell_of_heap (k.own _ (by simp)) o) h2, rfl⟩

/-- Cells opened: which place and which blocks each new name has. -/
theorem open_cells {e : Env} {A : Nat → Prop} : ∀ (l : List AV) (vs : List Value) (L : List Nat) (n : Nat), RVs e l vs L → l.all cellOk = true → bnds A l →
    ∃ S : List (Nat × Spot × List Nat), S.map (·.1) = (openL n l).2.1.map (·.1) ∧ L = S.flatMap (·.2.2) ∧
      ∀ e', (∀ x ∈ S, e'.φ x.1 = x.2.1) → Keeps e e' A L → RVs e' (openL n l).1 vs [] ∧ ∀ x ∈ S, ∀ row, (x.1, row) ∈ (openL n l).2.1 → RowSp e' x.2.1 row x.2.2
  | [], vs, L, n, h, _, _ => by
    simp only [RVs] at h
    obtain ⟨rfl, rfl⟩ := h
    exact ⟨[], rfl, rfl, fun e' _ _ => ⟨by simp [openL, RVs], by simp⟩⟩
  | v :: l, vs, L, n, h, hok, hb => by
    simp only [RVs] at h
    obtain ⟨c, vs', L1, L2, rfl, h1, h2, rfl⟩ := h
    simp only [List.all_cons, Bool.and_eq_true] at hok
    by_cases hv : ∃ sz rows, v = .sl .own sz rows
    · obtain ⟨sz, rows, rfl⟩ := hv
      obtain ⟨S, s1, s2, s3⟩ := open_cells l vs' L2 (n + 1) h2 hok.2 hb.2
      obtain ⟨o1, o2⟩ := own_spot h1
      refine ⟨(n, spotOf sz c, L1) :: S, by simp [openL, s1], by simp [s2], fun e' he hk => ?_⟩
      obtain ⟨g1, g2⟩ := s3 e' (fun x hx => he x (by simp [hx])) (hk.sub (by simp +contextual))
      refine ⟨?_, fun x hx row hr => ?_⟩
      · simp only [openL, RVs]
        exact ⟨c, vs', [], [], rfl, o2 e' n (he (n, spotOf sz c, L1) (by simp)), g1, rfl⟩
      · simp only [openL] at hr
        rcases List.mem_cons.1 hx with rfl | hx
        · rcases List.mem_cons.1 hr with hr | hr
          · simp only [Prod.mk.injEq, true_and] at hr
            subst hr
            exact o1.keep (hk.sub (by simp +contextual)) hb.1
          · have := ((openL_le l (n + 1)).2 _ hr).1
            simp at this; omega
        · rcases List.mem_cons.1 hr with hr | hr
          · have hm : x.1 ∈ S.map (·.1) := List.mem_map.2 ⟨x, hx, rfl⟩
            rw [s1] at hm
            obtain ⟨y, hy, hyx⟩ := List.mem_map.1 hm
            have := ((openL_le l (n + 1)).2 y hy).1
            simp only [Prod.mk.injEq] at hr
            omega
          · exact g2 x hx row hr
    · have hf := cell_free hok.1 (fun sz rows he => hv ⟨sz, rows, he⟩) h1
      subst hf
      have ho : openL n (v :: l) = (v :: (openL n l).1, (openL n l).2.1, (openL n l).2.2) := by
        cases v
        case sl m sz rows =>
          cases m
          · exact absurd ⟨_, _, rfl⟩ hv
          all_goals rfl
        all_goals rfl
      rw [ho]
      obtain ⟨S, s1, s2, s3⟩ := open_cells l vs' L2 n h2 hok.2 hb.2
      refine ⟨S, s1, by simpa using s2, fun e' he hk => ?_⟩
      obtain ⟨g1, g2⟩ := s3 e' he (hk.sub (by simp +contextual))
      refine ⟨?_, g2⟩
      simp only [RVs]
      exact ⟨c, vs', [], [], rfl, RV_keep v (hk.sub (by simp)) hb.1 h1, g1, rfl⟩

theorem RVs_split3 {e : Env} {r : List AV} {vs : List Value} {L : List Nat} (f n : Nat) (h : RVs e r vs L) (hf : f + n ≤ r.length) :
    ∃ La Lm Lc, L = La ++ (Lm ++ Lc) ∧ RVs e (r.take f) (vs.take f) La ∧ RVs e ((r.drop f).take n) ((vs.drop f).take n) Lm ∧ RVs e (r.drop (f + n)) (vs.drop (f + n)) Lc := by
  have h0 : r = r.take f ++ ((r.drop f).take n ++ r.drop (f + n)) := by
    rw [← List.drop_drop, List.take_append_drop, List.take_append_drop]
  rw [h0] at h
  obtain ⟨c1, c2, La, L2, h1, h2, h3, h4⟩ := (RVs_append _ _).1 h
  obtain ⟨c3, c4, Lm, Lc, h5, h6, h7, h8⟩ := (RVs_append _ _).1 h4
  have l1 := RVs_length h3
  have l2 := RVs_length h7
  rw [List.length_take, Nat.min_eq_left (by omega)] at l1
  rw [List.length_take, List.length_drop, Nat.min_eq_left (by omega)] at l2
  subst h5
  subst h1
  refine ⟨La, Lm, Lc, by rw [h2, h6], ?_, ?_, ?_⟩
  · rw [List.take_left' l1]; exact h3
  · rw [List.drop_left' l1, List.take_left' l2]; exact h7
  · have : List.drop (f + n) (c1 ++ (c3 ++ c4)) = c4 := by rw [← List.drop_drop, List.drop_left' l1, List.drop_left' l2]
    rw [this]; exact h8

mutual
theorem bnd_true : ∀ (v : AV), bnd (fun _ => True) v
  | .fn _ cap => bnds_true cap
  | .fptr _ cells _ => bnds_true cells
  | .sl _ _ rows => bndr_true rows
  | .agg cs => bnds_true cs
  | .tup cs => bnds_true cs
  | .ptr _ _ _ | .ns _ _ _ | .any | .int _ _ | .bool _ | .str _ | .nilp | .nil | .nilI | .ifc => trivial
theorem bnds_true : ∀ (l : List AV), bnds (fun _ => True) l
  | [] => trivial
  | c :: cs => ⟨bnd_true c, bnds_true cs⟩
theorem bndr_true : ∀ (l : List (List AV)), bndr (fun _ => True) l
  | [] => trivial
  | c :: cs => ⟨bnds_true c, bndr_true cs⟩
end

theorem nodup_flatMap_mem {α β : Type} {f : α → List β} {l : List α} {x : α} (h : (l.flatMap f).Nodup) (hx : x ∈ l) : (f x).Nodup := by
  induction l with
  | nil => simp at hx
  | cons y l ih =>
    rw [List.flatMap_cons, List.nodup_append] at h
    rcases List.mem_cons.1 hx with rfl | hx
    · exact h.1
    · exact ih h.2.1 hx

theorem flatMap_apart {α β : Type} {f : α → List β} {l : List α} {x y : α} {b : β} (h : (l.flatMap f).Nodup) (hx : x ∈ l) (hy : y ∈ l) (hne : x ≠ y) (h1 : b ∈ f x) (h2 : b ∈ f y) : False := by
  induction l with
  | nil => simp at hx
  | cons z l ih =>
    rw [List.flatMap_cons, List.nodup_append] at h
    rcases List.mem_cons.1 hx with ex | hx' <;> rcases List.mem_cons.1 hy with ey | hy'
    · exact hne (ex.trans ey.symm)
    · exact h.2.2 b (ex ▸ h1) b (List.mem_flatMap.2 ⟨y, hy', h2⟩) rfl
    · exact h.2.2 b (ey ▸ h2) b (List.mem_flatMap.2 ⟨x, hx', h1⟩) rfl
    · exact ih h.2.1 hx' hy'

section
variable {P : Program} {num : Nat → Nat} {o : Oper} {ρ : Nat → AV} {h : Heap} {nx nx' : Nat} {p : Prop} {v : AV} {fp : FP}

theorem getD_get {α : Type} {l : List α} {i : Nat} {d : α} (h : i < l.length) : l.getD i d = l[i] := by
  simp [List.getD_eq_getElem?_getD, h]

/-- A place in a named row: its cells. -/
theorem at_cells {e : Env} {q : Place} {row : Row} {i f n : Nat} {Lr : List Nat} (hq : q.sz = row.1) (hr : RRows e e.w q.block q.off q.sz row.2 Lr) (hi : i < row.2.length) (hf : f + n ≤ (row.2.getD i []).length) :
    ∃ vs L1 L2 L3, ((row.2.getD i []).length = q.sz ∧ (row.2.getD i []).all cellOk = true) ∧ vs.length = q.sz ∧ (∀ j, j < q.sz → e.w.cell? ⟨q.block, q.off + i * q.sz + j, none⟩ = vs[j]?) ∧ RVs e (row.2.getD i []) vs L2 ∧
      RRows e e.w q.block q.off q.sz (row.2.take i) L1 ∧ RRows e e.w q.block (q.off + (i + 1) * q.sz) q.sz (row.2.drop (i + 1)) L3 ∧ Lr = L1 ++ (L2 ++ L3) ∧
      ((vs.drop f).take n).length = n ∧ (∀ j, j < n → e.w.cell? ⟨q.block, q.off + i * q.sz + f + j, none⟩ = ((vs.drop f).take n)[j]?) := by
  obtain ⟨vs, L1, L2, L3, h1, h2, h3, h4, h5, h6, h7⟩ := RRows_split i hi hr
  rw [getD_get hi] at hf ⊢
  refine ⟨vs, L1, L2, L3, h1, h2, h3, h4, h5, h6, h7, by simp; omega, fun j hj => ?_⟩
  rw [show q.off + i * q.sz + f + j = q.off + i * q.sz + (f + j) by omega, h3 _ (by omega)]
  simp [hj]

theorem tri_load_f {n : Nat} {ag : Bool} {x : Arg} {m : Mode} {cells : List AV} {f : Nat} (hc : chkOp P num (.load n ag x) o.op = true) (hx : x.ev ρ = .fptr m cells f) (hf : f + n ≤ cells.length) :
    TriR P num o ρ (if ag then .agg ((cells.drop f).take n) else ((cells.drop f).take n).getD 0 .any) [] := by
  simp only [chkOp] at hc
  split at hc
  · rename_i t y hop
    simp only [Bool.and_eq_true, Bool.or_eq_true, beq_iff_eq] at hc
    obtain ⟨⟨⟨h1, h2⟩, h3⟩, h4⟩ := hc
    obtain ⟨i, hi, hs⟩ := sizeIs_some h2
    refine Tri.of_read (by simp) ?_
    intro e L0 H Lf a hn hk _ ht
    subst hn
    have g := RV_arg (ρ := ρ) ht h1
    rw [hx] at g
    simp only [RV] at g
    obtain ⟨_, b, o', vs, g1, g2, g3, g4, g5⟩ := g
    have hl : ((vs.drop f).take n).length = i.size := by rw [hs]; simp; omega
    have hcell : ∀ w', Same e [] w' → ∀ j, j < i.size → w'.cell? ⟨b, o' + f + j, none⟩ = ((vs.drop f).take n)[j]? := by
      intro w' hw' j hj
      rw [hw'.1 b (Env.frozen_or g2), hk.frozen_cell (Env.frozen_or g2), Nat.add_assoc, g4 _ (by omega)]
      simp [show j < n by omega]
    have hrv := RVs_take n (RVs_drop f g5)
    refine ⟨if ag then .agg ((vs.drop f).take n).toArray else ((vs.drop f).take n).getD 0 undef, ?_, ?_⟩
    · intro w' hw'
      simp only [execOp, hop, g1, Sem.run_bind, Instr.loadAt, Instr.sureAddr, Sem.run_pure, Result.andThen_ok]
      rw [run_loadVar h3 hi (fun ha => by rcases h4 with h4 | h4 <;> simp_all) hl (hcell w' hw')]
      rfl
    · cases ag with
      | true => simp only [if_true, RV]; exact ⟨_, rfl, hrv⟩
      | false =>
        simp at h4
        subst h4
        simp only [Bool.false_eq_true, if_false]
        obtain ⟨c, r1, r2⟩ := RVs_nil_get hrv 0 (by simp; omega)
        have e1 : ((vs.drop f).take 1).getD 0 undef = c := by rw [List.getD_eq_getElem?_getD, r1]; rfl
        rw [e1, getD_get (by simp; omega)]
        exact r2
  · simp at hc

/-- The model's load of cells that are known. -/
theorem run_load_at {w : World} {a : Act} {n : Nat} {ag : Bool} {y : Operand} {t : TypeId} {i : TypeInfo} {b o' : Nat} {vs : List Value} (hop : o.op = .load t y) (hi : P.info? t = some i) (hs : i.size = n) (h3 : aggB P t = some ag) (h4 : ag = true ∨ n = 1)
    (hy : a.eval y = .pointer (some ⟨b, o', none⟩)) (hl : vs.length = n) (hcell : ∀ j, j < n → w.cell? ⟨b, o' + j, none⟩ = vs[j]?) :
    (execOp a.eval o).run P w = .ok (.value (if ag then .agg vs.toArray else vs.getD 0 undef)) w := by
  subst hs
  simp only [execOp, hop, hy, Sem.run_bind, Instr.loadAt, Instr.sureAddr, Sem.run_pure, Result.andThen_ok]
  rw [run_loadVar h3 hi (fun ha => by rcases h4 with h4 | h4 <;> simp_all) hl hcell]
  rfl

theorem RV_loaded {e : Env} {n : Nat} {ag : Bool} {cs : List AV} {vs : List Value} (h4 : ag = true ∨ n = 1) (hl : cs.length = n) (h : RVs e cs vs []) :
    RV e (if ag then .agg cs else cs.getD 0 .any) (if ag then .agg vs.toArray else vs.getD 0 undef) [] := by
  cases ag with
  | true => simp only [if_true, RV]; exact ⟨_, rfl, h⟩
  | false =>
    simp at h4
    subst h4
    simp only [Bool.false_eq_true, if_false]
    obtain ⟨c, r1, r2⟩ := RVs_nil_get h 0 (by omega)
    have e1 : vs.getD 0 undef = c := by rw [List.getD_eq_getElem?_getD, r1]; rfl
    rw [e1, getD_get (by omega)]
    exact r2

theorem mem_upH_fresh {H : Nat → Option Row} : ∀ {l : List (Nat × Row)} {n : Nat}, (l.map (·.1)).Nodup → (∀ row, (n, row) ∈ l → upH H (fresh l) n = some row) ∧ (n ∉ l.map (·.1) → upH H (fresh l) n = H n)
  | [], n, _ => ⟨by simp, fun _ => rfl⟩
  | (m, r) :: l, n, hnd => by
    simp only [List.map_cons, List.nodup_cons] at hnd
    have ih := mem_upH_fresh (H := fun k => if k = m then some r else H k) (l := l) (n := n) hnd.2
    refine ⟨fun row hr => ?_, fun hn => ?_⟩
    · show upH _ (fresh l) n = _
      rcases List.mem_cons.1 hr with hr | hr
      · simp only [Prod.mk.injEq] at hr
        obtain ⟨rfl, rfl⟩ := hr
        rw [ih.2 hnd.1, if_pos rfl]
      · exact ih.1 row hr
    · simp only [List.map_cons, List.mem_cons, not_or] at hn
      show upH _ (fresh l) n = _
      rw [ih.2 hn.2, if_neg hn.1]

def spotIn (S : List (Nat × Spot × List Nat)) (φ : Nat → Spot) (n : Nat) : Spot := match S.find? (·.1 == n) with
  | some x => x.2.1
  | none => φ n
def blksIn (S : List (Nat × Spot × List Nat)) (Lf : Nat → List Nat) (n : Nat) : List Nat := match S.find? (·.1 == n) with
  | some x => x.2.2
  | none => Lf n

theorem find_mem {S : List (Nat × Spot × List Nat)} (hnd : (S.map (·.1)).Nodup) {x : Nat × Spot × List Nat} (hx : x ∈ S) : S.find? (·.1 == x.1) = some x := by
  induction S with
  | nil => simp at hx
  | cons y S ih =>
    simp only [List.map_cons, List.nodup_cons] at hnd
    rcases List.mem_cons.1 hx with rfl | hx
    · simp
    · have : y.1 ≠ x.1 := fun he => hnd.1 (List.mem_map.2 ⟨x, hx, he.symm⟩)
      simp [this, ih hnd.2 hx]

theorem find_none {S : List (Nat × Spot × List Nat)} {n : Nat} (h : n ∉ S.map (·.1)) : S.find? (·.1 == n) = none := by
  rw [List.find?_eq_none]
  intro x hx
  simp
  exact fun he => h (List.mem_map.2 ⟨x, hx, he⟩)

theorem tri_load_p {n : Nat} {ag : Bool} {x : Arg} {nm i f : Nat} {row : Row} (hc : chkOp P num (.load n ag x) o.op = true) (hx : x.ev ρ = .ptr nm i f) (hi : i < row.2.length) (hf : f + n ≤ (row.2.getD i []).length) :
    TriR P num o ρ (if ag then .agg (openL nx (((row.2.getD i []).drop f).take n)).1 else (openL nx (((row.2.getD i []).drop f).take n)).1.getD 0 .any)
      ((nm, some row, some (if (openL nx (((row.2.getD i []).drop f).take n)).2.1.isEmpty then row else (row.1, row.2.set i (splice (row.2.getD i []) f (openL nx (((row.2.getD i []).drop f).take n)).1)))) :: fresh (openL nx (((row.2.getD i []).drop f).take n)).2.1) := by
  simp only [chkOp] at hc
  split at hc
  · rename_i t y hop
    simp only [Bool.and_eq_true, Bool.or_eq_true, beq_iff_eq] at hc
    obtain ⟨⟨⟨h1, h2⟩, h3⟩, h4⟩ := hc
    obtain ⟨ti, hti, hs⟩ := sizeIs_some h2
    generalize hol : openL nx (((row.2.getD i []).drop f).take n) = ol
    have hlen0 : (((row.2.getD i []).drop f).take n).length = n := by rw [List.length_take, List.length_drop]; omega
    have olen : ol.1.length = n := by rw [← hol, openL_length, hlen0]
    by_cases hno : ol.2.1 = []
    · rw [hno]
      have h5 : ol.1 = ((row.2.getD i []).drop f).take n := by rw [← hol]; exact openL_none _ _ (by rw [hol]; exact hno)
      simp only [List.isEmpty_nil, if_true]
      refine Tri.of_read (by simp [fresh]) ?_
      intro e L0 H Lf a hn hk hpre ht
      subst hn
      have hr := hk.rh.row nm row (hpre (nm, some row, some row) (by simp [fresh]))
      have g := RV_arg (ρ := ρ) ht h1
      rw [hx] at g
      obtain ⟨q, hq, g2⟩ := ptr_at hr g
      have hr' := hr
      unfold RowAt RowSp at hr'
      rw [hq] at hr'
      obtain ⟨q1, q2, Lr, q3, q4⟩ := hr'
      obtain ⟨vs, L1, L2, L3, r1, r2, r3, r4, r5, r6, r7, r8, r9⟩ := at_cells q1 q3 hi hf
      refine ⟨_, fun w' hw' => run_load_at hop hti hs h3 h4 g2 r8 (fun j hj => by rw [cell_of_heap (hw'.2 (nm, some row, some row) (by simp [fresh]) q hq)]; exact r9 j hj), RV_loaded h4 olen ?_⟩
      obtain ⟨La, Lm, Lc, s1, s2, s3, s4⟩ := RVs_split3 f n r4 hf
      have hall : (((row.2.getD i []).drop f).take n).all cellOk = true := List.all_eq_true.2 fun c hc => List.all_eq_true.1 r1.2 c (List.mem_of_mem_drop (List.mem_of_mem_take hc))
      obtain ⟨S, t1, t2, t3⟩ := open_cells (A := fun _ => True) _ _ _ nx s3 hall (bnds_iff.2 fun c _ => bnd_true c)
      have hS : S = [] := by
        have : (openL nx (((row.2.getD i []).drop f).take n)).2.1 = [] := by rw [hol]; exact hno
        rw [this] at t1
        simpa using t1
      subst hS
      rw [h5]
      simp only [List.flatMap_nil] at t2
      subst t2
      exact s3
    · have hne : ol.2.1.isEmpty = false := by cases h : ol.2.1 with | nil => exact absurd h hno | cons => rfl
      simp only [hne, Bool.false_eq_true, if_false]
      intro e L0 H Lf A a hn hk hpre hbt hbh hfr ht
      subst hn
      have hrow : H nm = some row := hpre _ List.mem_cons_self
      have hr := hk.rh.row nm row hrow
      have g := RV_arg (ρ := ρ) ht h1
      rw [hx] at g
      obtain ⟨q, hq, g2⟩ := ptr_at hr g
      have hr' := hr
      unfold RowAt RowSp at hr'
      rw [hq] at hr'
      obtain ⟨q1, q2, Lr, q3, q4⟩ := hr'
      obtain ⟨vs, L1, L2, L3, r1, r2, r3, r4, r5, r6, r7, r8, r9⟩ := at_cells q1 q3 hi hf
      obtain ⟨La, Lm, Lc, s1, s2, s3, s4⟩ := RVs_split3 f n r4 hf
      have hrb := hbh nm row hrow
      have hrb1 : bnds A (row.2.getD i []) := by rw [getD_get hi]; exact bndr_iff.1 hrb _ (List.getElem_mem hi)
      have hall : (((row.2.getD i []).drop f).take n).all cellOk = true := List.all_eq_true.2 fun c hc => List.all_eq_true.1 r1.2 c (List.mem_of_mem_drop (List.mem_of_mem_take hc))
      obtain ⟨S, t1, t2, t3⟩ := open_cells (A := A) _ _ _ nx s3 hall (bnds_iff.2 fun c hc => bnds_iff.1 hrb1 c (List.mem_of_mem_drop (List.mem_of_mem_take hc)))
      rw [hol] at t1 t3
      have nd : (ol.2.1.map (·.1)).Nodup := by rw [← hol]; exact openL_nodup _ _
      have ndS : (S.map (·.1)).Nodup := by rw [t1]; exact nd
      -- the fresh names are new
      have hfresh : ∀ m, m ∈ ol.2.1.map (·.1) → H m = none ∧ ¬ A m := by
        intro m hm
        obtain ⟨y', hy, rfl⟩ := List.mem_map.1 hm
        have hmem : (y'.1, none, some y'.2) ∈ fresh ol.2.1 := List.mem_map.2 ⟨y', hy, rfl⟩
        exact ⟨hpre _ (List.mem_cons_of_mem _ hmem), hfr _ (List.mem_cons_of_mem _ hmem) rfl⟩
      have hnmS : nm ∉ ol.2.1.map (·.1) := fun hm => by have := (hfresh nm hm).1; rw [hrow] at this; simp at this
      let e' : Env := { e with φ := spotIn S e.φ }
      have φS : ∀ z ∈ S, e'.φ z.1 = z.2.1 := fun z hz => by show spotIn S e.φ z.1 = _; unfold spotIn; rw [find_mem ndS hz]
      have φn : ∀ m, m ∉ S.map (·.1) → e'.φ m = e.φ m := fun m hm => by show spotIn S e.φ m = _; unfold spotIn; rw [find_none hm]
      have kp : ∀ L, Keeps e e' A L := fun L => {
        num := rfl
        fr := fun m b h => by cases m <;> exact h
        cells := fun b _ o => rfl
        φ := fun m hA => .inl (φn m (fun hm => (hfresh m (by rw [← t1]; exact hm)).2 hA))
        own := fun b _ => rfl }
      obtain ⟨u1, u2⟩ := t3 e' φS (kp _)
      let Lf' : Nat → List Nat := fun m => if m = nm then q.block :: (L1 ++ ((La ++ Lc) ++ L3)) else blksIn S Lf m
      have LfS : ∀ z ∈ S, Lf' z.1 = z.2.2 := fun z hz => by
        have hz1 : z.1 ≠ nm := fun he => hnmS (by rw [← t1]; exact List.mem_map.2 ⟨z, hz, he⟩)
        show (if z.1 = nm then _ else blksIn S Lf z.1) = _
        rw [if_neg hz1]; unfold blksIn; rw [find_mem ndS hz]
      have LfN : Lf' nm = q.block :: (L1 ++ ((La ++ Lc) ++ L3)) := if_pos rfl
      have hLf : Lf nm = q.block :: (L1 ++ ((La ++ (Lm ++ Lc)) ++ L3)) := by rw [q4, r7, s1]
      have hnd := hk.rh.nodup nm (by simp [hrow])
      rw [hLf] at hnd
      have hblk := hk.rh.blk nm (by simp [hrow])
      rw [hLf] at hblk
      have subLm : ∀ z ∈ S, ∀ b ∈ z.2.2, b ∈ Lm := fun z hz b hb => by rw [t2]; exact List.mem_flatMap.2 ⟨z, hz, hb⟩
      have hH : ∀ m, upH H ((nm, some row, some (row.1, row.2.set i (splice (row.2.getD i []) f ol.1))) :: fresh ol.2.1) m = if m = nm then some (row.1, row.2.set i (splice (row.2.getD i []) f ol.1)) else upH H (fresh ol.2.1) m := by
        intro m
        show upH (fun k => if k = nm then _ else H k) (fresh ol.2.1) m = _
        by_cases hm : m ∈ ol.2.1.map (·.1)
        · obtain ⟨y', hy, rfl⟩ := List.mem_map.1 hm
          have hne' : y'.1 ≠ nm := fun he => hnmS (he ▸ hm)
          rw [(mem_upH_fresh nd).1 y'.2 hy, if_neg hne', (mem_upH_fresh nd).1 y'.2 hy]
        · rw [(mem_upH_fresh nd).2 hm, (mem_upH_fresh nd).2 hm]
      have memF : ∀ m, m ∈ ((nm, some row, some (row.1, row.2.set i (splice (row.2.getD i []) f ol.1))) :: fresh ol.2.1 : FP).map (·.1) ↔ m = nm ∨ m ∈ S.map (·.1) := by
        intro m
        rw [t1]
        simp [fresh]
      have hrv : RVs e' ol.1 ((vs.drop f).take n) [] := u1
      refine ⟨_, fun w' hw' => run_load_at hop hti hs h3 h4 g2 r8 (fun j hj => by rw [cell_of_heap (hw'.2 _ List.mem_cons_self q hq)]; exact r9 j hj), e', Lf', rfl, ?_, RV_loaded h4 olen hrv⟩
      refine { num := rfl, w0 := rfl, Fr := rfl, Bo := rfl, io := SameIo.refl _, size := Nat.le_refl _, keep := fun b _ _ => rfl, φ := ?_, φF := ?_, rest := ?_, row := ?_, nodup := ?_, blk := ?_, dis := ?_, dead := ?_ }
      · intro m hm
        exact φn m (fun h => hm ((memF m).2 (.inr h)))
      · intro m hm hH'
        refine .inl (φn m (fun h => ?_))
        exact hH' (hfresh m (by rw [← t1]; exact h)).1
      · intro m hm
        have hm' : m ≠ nm ∧ m ∉ S.map (·.1) := by
          refine ⟨fun h => hm ((memF m).2 (.inl h)), fun h => hm ((memF m).2 (.inr h))⟩
        rw [hH, if_neg hm'.1, (mem_upH_fresh nd).2 (by rw [← t1]; exact hm'.2)]
      · intro m row' hm hrow'
        rw [hH] at hrow'
        by_cases he : m = nm
        · subst he
          rw [if_pos rfl] at hrow'
          simp only [Option.some.injEq] at hrow'
          subst hrow'
          have hφ : e'.φ m = .at q := by rw [φn m (by rw [t1]; exact hnmS)]; exact hq
          rw [LfN]
          unfold RowAt RowSp
          rw [hφ]
          refine ⟨q1, ?_, _, ?_, rfl⟩
          · simp only [List.length_set]; exact q2
          · have hrlen : (splice (row.2.getD i []) f ol.1).length = q.sz ∧ (splice (row.2.getD i []) f ol.1).all cellOk = true := by
              refine ⟨?_, ?_⟩
              · rw [← r1.1]; exact splice_length _ _ _ (by rw [olen]; exact hf)
              · have := openL_ok (((row.2.getD i []).drop f).take n) nx hall
                rw [hol] at this
                unfold splice
                simp only [List.all_append, Bool.and_eq_true]
                exact ⟨⟨List.all_eq_true.2 fun c hc => List.all_eq_true.1 r1.2 c (List.mem_of_mem_take hc), this⟩, List.all_eq_true.2 fun c hc => List.all_eq_true.1 r1.2 c (List.mem_of_mem_drop hc)⟩
            have hb1 : bndr A (row.2.take i) := bndr_iff.2 fun r hr => bndr_iff.1 hrb r (List.mem_of_mem_take hr)
            have hb3 : bndr A (row.2.drop (i + 1)) := bndr_iff.2 fun r hr => bndr_iff.1 hrb r (List.mem_of_mem_drop hr)
            refine RRows_join (vs := vs) i hi hrlen r2 r3 ?_ (RRows_keep _ (kp _) hb1 (fun _ _ => rfl) r5) (RRows_keep _ (kp _) hb3 (fun _ _ => rfl) r6)
            have hvs : vs = vs.take f ++ (vs.drop f).take n ++ vs.drop (f + n) := by
              rw [List.append_assoc, ← List.drop_drop, List.take_append_drop, List.take_append_drop]
            rw [hvs]
            unfold splice
            rw [olen]
            refine (RVs_append _ _).2 ⟨_, _, La, Lc, rfl, rfl, (RVs_append _ _).2 ⟨_, _, La, [], rfl, by simp, ?_, hrv⟩, ?_⟩
            · exact RVs_keep _ (kp _) (bnds_iff.2 fun c hc => bnds_iff.1 hrb1 c (List.mem_of_mem_take hc)) s2
            · exact RVs_keep _ (kp _) (bnds_iff.2 fun c hc => bnds_iff.1 hrb1 c (List.mem_of_mem_drop hc)) s4
        · rw [if_neg he] at hrow'
          have hmS : m ∈ S.map (·.1) := ((memF m).1 hm).resolve_left he
          obtain ⟨z, hz, rfl⟩ := List.mem_map.1 hmS
          have hz' : z.1 ∈ ol.2.1.map (·.1) := by rw [← t1]; exact hmS
          obtain ⟨y', hy, hyz⟩ := List.mem_map.1 hz'
          have hy2 : (z.1, y'.2) ∈ ol.2.1 := by rw [← hyz]; exact hy
          rw [(mem_upH_fresh nd).1 y'.2 hy2] at hrow'
          simp only [Option.some.injEq] at hrow'
          subst hrow'
          rw [LfS z hz]
          unfold RowAt
          rw [φS z hz]
          exact u2 z hz y'.2 hy2
      · intro m hm _
        rcases (memF m).1 hm with rfl | hmS
        · rw [LfN]
          exact hnd.sublist (List.Sublist.cons_cons _ ((List.Sublist.refl _).append (((List.Sublist.refl _).append (List.sublist_append_right _ _)).append (List.Sublist.refl _))))
        · obtain ⟨z, hz, rfl⟩ := List.mem_map.1 hmS
          rw [LfS z hz]
          have hLm : Lm.Nodup := by
            refine hnd.sublist ?_
            exact (((List.sublist_append_left Lm Lc).trans (List.sublist_append_right La _)).trans (List.sublist_append_left _ L3)).trans ((List.sublist_append_right L1 _).trans (List.sublist_cons_self _ _))
          rw [t2] at hLm
          exact nodup_flatMap_mem (f := fun x : Nat × Spot × List Nat => x.2.2) hLm hz
      · intro m hm _ b hb
        rcases (memF m).1 hm with rfl | hmS
        · rw [LfN] at hb
          have hb' : b ∈ Lf m := by
            rw [hLf]
            simp only [List.mem_cons, List.mem_append] at hb ⊢
            rcases hb with h | h | (h | h) | h
            · exact .inl h
            · exact .inr (.inl h)
            · exact .inr (.inr (.inl (.inl h)))
            · exact .inr (.inr (.inl (.inr (.inr h))))
            · exact .inr (.inr (.inr h))
          exact ⟨(hk.rh.blk m (by simp [hrow]) b hb').1, .inr ⟨m, hm, by simp [hrow], hb'⟩⟩
        · obtain ⟨z, hz, rfl⟩ := List.mem_map.1 hmS
          rw [LfS z hz] at hb
          have hb' : b ∈ Lf nm := by
            rw [hLf]
            have := subLm z hz b hb
            simp [this]
          exact ⟨(hk.rh.blk nm (by simp [hrow]) b hb').1, .inr ⟨nm, (memF nm).2 (.inl rfl), by simp [hrow], hb'⟩⟩
      · have key : ∀ z ∈ S, ∀ b ∈ z.2.2, b ∉ q.block :: (L1 ++ ((La ++ Lc) ++ L3)) := by
          intro z hz b hb hb2
          have hm := subLm z hz b hb
          rw [List.nodup_cons] at hnd
          obtain ⟨n1, n2⟩ := hnd
          rw [List.nodup_append] at n2
          obtain ⟨_, n3, n4⟩ := n2
          rw [List.nodup_append] at n3
          obtain ⟨n5, _, n6⟩ := n3
          rw [List.nodup_append] at n5
          obtain ⟨_, n7, n8⟩ := n5
          rw [List.nodup_append] at n7
          obtain ⟨_, _, n9⟩ := n7
          rcases List.mem_cons.1 hb2 with h | h
          · subst h; exact n1 (by simp [hm])
          · rcases List.mem_append.1 h with h | h
            · exact n4 b h b (by simp [hm]) rfl
            · rcases List.mem_append.1 h with h | h
              · rcases List.mem_append.1 h with h | h
                · exact n8 b h b (by simp [hm]) rfl
                · exact n9 b hm b h rfl
              · exact n6 b (by simp [hm]) b h rfl
        intro m1 m2 hm1 hm2 _ _ hne' b hb1 hb2
        rcases (memF m1).1 hm1 with rfl | h1' <;> rcases (memF m2).1 hm2 with rfl | h2'
        · exact hne' rfl
        · obtain ⟨z, hz, rfl⟩ := List.mem_map.1 h2'
          rw [LfN] at hb1; rw [LfS z hz] at hb2
          exact key z hz b hb2 hb1
        · obtain ⟨z, hz, rfl⟩ := List.mem_map.1 h1'
          rw [LfN] at hb2; rw [LfS z hz] at hb1
          exact key z hz b hb1 hb2
        · obtain ⟨z, hz, rfl⟩ := List.mem_map.1 h1'
          obtain ⟨z2, hz2, rfl⟩ := List.mem_map.1 h2'
          rw [LfS z hz] at hb1; rw [LfS z2 hz2] at hb2
          have hLm : Lm.Nodup := by
            refine hnd.sublist ?_
            exact (((List.sublist_append_left Lm Lc).trans (List.sublist_append_right La _)).trans (List.sublist_append_left _ L3)).trans ((List.sublist_append_right L1 _).trans (List.sublist_cons_self _ _))
          rw [t2] at hLm
          exact flatMap_apart (f := fun x : Nat × Spot × List Nat => x.2.2) hLm hz hz2 (fun he => hne' (by rw [he])) hb1 hb2
      · intro m hm hno'
        rw [hH] at hno'
        rcases (memF m).1 hm with rfl | hmS
        · simp at hno'
        · obtain ⟨z, hz, rfl⟩ := List.mem_map.1 hmS
          have hz' : z.1 ∈ ol.2.1.map (·.1) := by rw [← t1]; exact hmS
          obtain ⟨y', hy, hyz⟩ := List.mem_map.1 hz'
          have hy2 : (z.1, y'.2) ∈ ol.2.1 := by rw [← hyz]; exact hy
          have hne' : z.1 ≠ nm := fun he => hnmS (he ▸ hz')
          rw [if_neg hne', (mem_upH_fresh nd).1 y'.2 hy2] at hno'
          simp at hno'
  · simp at hc

end
end Go.Sep
