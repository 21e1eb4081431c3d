/- All operations together: what the executor tells of an operation is so; names stay below the next name. -/
import Derived.Test.YtoijhndfkfliiaaPlan
namespace Go.Sep
set_option linter.unusedVariables false
set_option linter.unusedSimpArgs false

section
variable {P : Program} {num : Nat → Nat} {o : Oper} {ρ : Nat → AV} {h : Heap} {nx nx' : Nat} {p : Prop} {v : AV} {fp : FP}

theorem plan_triR {m : MOp} (hr : isRead m = true) (hc : chkOp P num m o.op = true) (hp : plan ρ h nx m = some (p, v, fp, nx')) (hpp : p) : TriR P num o ρ v fp := by
  cases m with
  | mv x => exact (tri_mv hc hp)
  | pick c a b => exact (tri_pick hc hp)
  | alloc z => simp [isRead] at hr
  | box x => simp [isRead] at hr
  | build z ps => exact (tri_build hc hp hpp)
  | mkSl z l ps => simp [isRead] at hr
  | load n ag a =>
    simp only [plan] at hp
    split at hp
    · rename_i nm i f hx
      cases hl : look h nm with
      | none => simp [hl] at hp
      | some row =>
        simp only [hl, Option.map_some, Option.some.injEq, Prod.mk.injEq] at hp
        obtain ⟨rfl, rfl, rfl, rfl⟩ := hp
        exact (tri_load_p hc hx hpp.1 hpp.2)
    · rename_i m cells f hx
      simp only [Option.some.injEq, Prod.mk.injEq] at hp
      obtain ⟨rfl, rfl, rfl, rfl⟩ := hp
      exact (tri_load_f hc hx hpp)
    · simp at hp
  | store n a z => simp [isRead] at hr
  | nilck x => exact (tri_nilck hc hp)
  | bin b x y => exact (tri_bin hc hp hpp)
  | eqS ng ks x y => exact (tri_eqS hc hp)
  | eqB ng x y => exact (tri_eqB hc hp)
  | neNil x => exact (tri_neNil hc hp)
  | un u x => exact (tri_un hc hp)
  | cvi k x => exact (tri_cvi hc hp)
  | cvs x => exact (tri_cvs hc hp hpp)
  | mkS z b l c => simp [isRead] at hr
  | cut s x l h => exact (tri_cut hc hp hpp)
  | cutS x l h => exact (tri_cutS hc hp hpp)
  | fad f x => exact (tri_fad hc hp)
  | fld f n ag x => exact (tri_fld hc hp hpp)
  | iad s x i => exact (tri_iad hc hp hpp)
  | idx x i => exact (tri_idx hc hp hpp)
  | ext x i => exact (tri_ext hc hp hpp)
  | len x => exact (tri_len hc hp)
  | lenS x => exact (tri_lenS hc hp)
  | mx x y => exact (tri_mx hc hp)
  | app s b x y => simp [isRead] at hr
  | call f ps xs => simp [isRead] at hr
  | calv f xs => simp [isRead] at hr

theorem plan_tri {m : MOp} (hc : chkOp P num m o.op = true) (hp : plan ρ h nx m = some (p, v, fp, nx')) (hpp : p) (hnx : ∀ nm row, look h nm = some row → nm ≠ nx) : Tri P num o ρ v fp := by
  cases m with
  | mv x => exact (tri_mv hc hp).tri
  | pick c a b => exact (tri_pick hc hp).tri
  | alloc z => exact tri_alloc hc hp hpp
  | box x => exact tri_box hc hp hpp
  | build z ps => exact (tri_build hc hp hpp).tri
  | mkSl z l ps => exact tri_mkSl hc hp hpp
  | load n ag a =>
    simp only [plan] at hp
    split at hp
    · rename_i nm i f hx
      cases hl : look h nm with
      | none => simp [hl] at hp
      | some row =>
        simp only [hl, Option.map_some, Option.some.injEq, Prod.mk.injEq] at hp
        obtain ⟨rfl, rfl, rfl, rfl⟩ := hp
        exact (tri_load_p hc hx hpp.1 hpp.2).tri
    · rename_i m cells f hx
      simp only [Option.some.injEq, Prod.mk.injEq] at hp
      obtain ⟨rfl, rfl, rfl, rfl⟩ := hp
      exact (tri_load_f hc hx hpp).tri
    · simp at hp
  | store n a z =>
    simp only [plan] at hp
    split at hp
    · rename_i nm i f hx
      cases hl : look h nm with
      | none => simp [hl] at hp
      | some row =>
        simp only [hl, Option.map_some, Option.some.injEq, Prod.mk.injEq] at hp
        obtain ⟨rfl, rfl, rfl, rfl⟩ := hp
        exact tri_store hc hx hpp.2.2.1 hpp.2.2.2 hpp.1 hpp.2.1
    · simp at hp
  | nilck x => exact (tri_nilck hc hp).tri
  | bin b x y => exact (tri_bin hc hp hpp).tri
  | eqS ng ks x y => exact (tri_eqS hc hp).tri
  | eqB ng x y => exact (tri_eqB hc hp).tri
  | neNil x => exact (tri_neNil hc hp).tri
  | un u x => exact (tri_un hc hp).tri
  | cvi k x => exact (tri_cvi hc hp).tri
  | cvs x => exact (tri_cvs hc hp hpp).tri
  | mkS z b l c => exact tri_mkS hc hp hpp
  | cut s x l h => exact (tri_cut hc hp hpp).tri
  | cutS x l h => exact (tri_cutS hc hp hpp).tri
  | fad f x => exact (tri_fad hc hp).tri
  | fld f n ag x => exact (tri_fld hc hp hpp).tri
  | iad s x i => exact (tri_iad hc hp hpp).tri
  | idx x i => exact (tri_idx hc hp hpp).tri
  | ext x i => exact (tri_ext hc hp hpp).tri
  | len x => exact (tri_len hc hp).tri
  | lenS x => exact (tri_lenS hc hp).tri
  | mx x y => exact (tri_mx hc hp).tri
  | app s b x y => exact tri_app hc hp hpp hnx
  | call f ps xs => simp [plan] at hp
  | calv f xs => simp [plan] at hp

/-- What a step leaves is below the next name. -/
structure PB (h : Heap) (nx : Nat) (v : AV) (fp : FP) (nx' : Nat) : Prop where
  le : nx ≤ nx'
  v : bnd (· < nx') v
  pre : ∀ x ∈ fp, look h x.1 = x.2.1
  new : ∀ x ∈ fp, x.2.1 = none → nx ≤ x.1
  lt : ∀ x ∈ fp, x.1 < nx'
  row : ∀ x ∈ fp, ∀ row, x.2.2 = some row → bndr (· < nx') row.2

/-- Names are below the next name. -/
def HB (h : Heap) (nx : Nat) : Prop := ∀ nm row, look h nm = some row → nm < nx ∧ bndr (· < nx) row.2

theorem HB.new {h : Heap} {nx n : Nat} (hb : HB h nx) (hn : nx ≤ n) : look h n = none := by
  cases hl : look h n with
  | none => rfl
  | some row => have := (hb n row hl).1; omega

theorem bnds_take {A : Nat → Prop} {l : List AV} (h : bnds A l) (n : Nat) : bnds A (l.take n) := bnds_iff.2 fun x hx => bnds_iff.1 h x (List.mem_of_mem_take hx)
theorem bnds_drop {A : Nat → Prop} {l : List AV} (h : bnds A l) (n : Nat) : bnds A (l.drop n) := bnds_iff.2 fun x hx => bnds_iff.1 h x (List.mem_of_mem_drop hx)
theorem bndr_take {A : Nat → Prop} {l : List (List AV)} (h : bndr A l) (n : Nat) : bndr A (l.take n) := bndr_iff.2 fun x hx => bndr_iff.1 h x (List.mem_of_mem_take hx)
theorem bndr_drop {A : Nat → Prop} {l : List (List AV)} (h : bndr A l) (n : Nat) : bndr A (l.drop n) := bndr_iff.2 fun x hx => bndr_iff.1 h x (List.mem_of_mem_drop hx)
theorem bnds_app {A : Nat → Prop} {l m : List AV} (h : bnds A l) (h' : bnds A m) : bnds A (l ++ m) := bnds_iff.2 fun x hx => by
  rcases List.mem_append.1 hx with hx | hx
  · exact bnds_iff.1 h x hx
  · exact bnds_iff.1 h' x hx
theorem bndr_app {A : Nat → Prop} {l m : List (List AV)} (h : bndr A l) (h' : bndr A m) : bndr A (l ++ m) := bndr_iff.2 fun x hx => by
  rcases List.mem_append.1 hx with hx | hx
  · exact bndr_iff.1 h x hx
  · exact bndr_iff.1 h' x hx
theorem bnds_getD {A : Nat → Prop} {l : List AV} (h : bnds A l) (n : Nat) : bnd A (l.getD n .any) := by
  rw [List.getD_eq_getElem?_getD]
  cases hg : l[n]? with
  | none => trivial
  | some x => exact bnds_iff.1 h x (List.mem_of_getElem? hg)
theorem bndr_getD {A : Nat → Prop} {l : List (List AV)} (h : bndr A l) (n : Nat) : bnds A (l.getD n []) := by
  rw [List.getD_eq_getElem?_getD]
  cases hg : l[n]? with
  | none => trivial
  | some x => exact bndr_iff.1 h x (List.mem_of_getElem? hg)
theorem bndr_set {A : Nat → Prop} {l : List (List AV)} (h : bndr A l) (n : Nat) {r : List AV} (hr : bnds A r) : bndr A (l.set n r) := bndr_iff.2 fun x hx => by
  rcases List.mem_or_eq_of_mem_set hx with hx | rfl
  · exact bndr_iff.1 h x hx
  · exact hr
theorem bnds_splice {A : Nat → Prop} {l cs : List AV} (h : bnds A l) (h' : bnds A cs) (f : Nat) : bnds A (splice l f cs) := bnds_app (bnds_app (bnds_take h f) h') (bnds_drop h _)

theorem fillA_bnd {A : Nat → Prop} {P : Program} {fs : Array Field} (ht : ∀ t, bnd A (ρ t)) : ∀ (parts : List (Nat × Nat × Arg)) (ps : List (Nat × Operand)) (cs : List AV), chkParts P num fs ps parts = true → bnds A cs → bnds A (fillA ρ cs parts)
  | [], _, _, _, hb => hb
  | (off, sz, x) :: l, [], _, hc, _ => by simp [chkParts] at hc
  | (off, sz, x) :: l, (i, y) :: ps, cs, hc, hb => by
    simp only [chkParts, Bool.and_eq_true] at hc
    exact fillA_bnd ht l ps _ hc.2 (bnds_splice hb (cellsOf_bnd (arg_bnd ht hc.1.2)) off)

theorem openL_bnd {A : Nat → Prop} : ∀ (l : List AV) (n : Nat), bnds (· < n) l → bnds (· < (openL n l).2.2) (openL n l).1 ∧ ∀ x ∈ (openL n l).2.1, bndr (· < (openL n l).2.2) x.2.2
  | [], n, _ => by simp [openL, bnds]
  | v :: l, n, hb => by
    by_cases hv : ∃ sz rows, v = .sl .own sz rows
    · obtain ⟨sz, rows, rfl⟩ := hv
      have hle := (openL_le l (n + 1)).1
      have ih := openL_bnd (A := A) l (n + 1) (bnds_mono (by intro k hk; omega) l hb.2)
      simp only [openL, bnds, bnd, List.mem_cons]
      refine ⟨⟨by omega, ih.1⟩, ?_⟩
      rintro x (rfl | hx)
      · exact bndr_mono (by intro k hk; omega) rows hb.1
      · exact ih.2 x hx
    · have ho : openL n (v :: l) = (v :: (openL n l).1, (openL n l).2.1, (openL n l).2.2) := by
        cases v
        case sl m sz rows =>
          cases m
          · exact absurd ⟨_, _, rfl⟩ hv
          all_goals rfl
        all_goals rfl
      rw [ho]
      have ih := openL_bnd (A := A) l n hb.2
      have hle := (openL_le l n).1
      exact ⟨⟨bnd_mono (by intro k hk; simp only at hk ⊢; omega) v hb.1, ih.1⟩, ih.2⟩

theorem src_bnd {A : Nat → Prop} {sz : Nat} {d : AV} {cond : Prop} {xs : List (List AV)} {rd : FP} (hs : srcA h sz d = some (cond, xs, rd)) (hb : bnd A d) (hh : ∀ nm row, look h nm = some row → bndr A row.2) :
    bndr A xs ∧ ∀ x ∈ rd, look h x.1 = x.2.1 ∧ x.2.1 ≠ none ∧ x.2.2 = x.2.1 := by
  unfold srcA at hs
  split at hs
  · simp only [Option.some.injEq, Prod.mk.injEq] at hs
    obtain ⟨_, rfl, rfl⟩ := hs
    exact ⟨trivial, by simp⟩
  · rename_i nm off len
    cases hl : look h nm with
    | none => simp [hl] at hs
    | some row =>
      simp only [hl, Option.map_some, Option.some.injEq, Prod.mk.injEq] at hs
      obtain ⟨_, rfl, rfl⟩ := hs
      exact ⟨bndr_take (bndr_drop (hh nm row hl) off) len, by simp [hl]⟩
  · simp only [Option.some.injEq, Prod.mk.injEq] at hs
    obtain ⟨_, rfl, rfl⟩ := hs
    exact ⟨hb, by simp⟩
  · simp only [Option.some.injEq, Prod.mk.injEq] at hs
    obtain ⟨_, rfl, rfl⟩ := hs
    exact ⟨hb, by simp⟩
  · simp at hs

/-- A step that touches no row. -/
theorem PB.none {v : AV} (hv : bnd (· < nx) v) : PB h nx v [] nx := ⟨Nat.le_refl _, hv, by simp, by simp, by simp, by simp⟩

theorem PB.read {v : AV} (hb : HB h nx) (hv : bnd (· < nx) v) {nm : Nat} {row : Row} (hl : look h nm = some row) : PB h nx v [(nm, some row, some row)] nx :=
  ⟨Nat.le_refl _, hv, by simpa using hl, by simp, by simpa using (hb nm row hl).1, by rintro x hx r hr; simp only [List.mem_singleton] at hx; subst hx; simp only [Option.some.injEq] at hr; subst hr; exact (hb nm row hl).2⟩

theorem PB.fresh {v : AV} (hb : HB h nx) (hv : bnd (· < nx + 1) v) {row : Row} (hr : bndr (· < nx) row.2) : PB h nx v [(nx, Option.none, some row)] (nx + 1) :=
  ⟨by omega, hv, by simpa using hb.new (Nat.le_refl _), by simp, by simp, by rintro x hx r hr'; simp only [List.mem_singleton] at hx; subst hx; simp only [Option.some.injEq] at hr'; subst hr'; exact bndr_mono (by intro k hk; omega) row.2 hr⟩

theorem plan_bnd {m : MOp} {op : Op} (hc : chkOp P num m op = true) (hp : plan ρ h nx m = some (p, v, fp, nx')) (ht : ∀ t, bnd (· < nx) (ρ t)) (hb : HB h nx) : PB h nx v fp nx' := by
  have hbr : ∀ nm row, look h nm = some row → bndr (· < nx) row.2 := fun nm row hl => (hb nm row hl).2
  cases m with
  | mv x =>
    simp only [plan, ok, Option.some.injEq, Prod.mk.injEq] at hp
    obtain ⟨_, rfl, rfl, rfl⟩ := hp
    simp only [chkOp] at hc
    split at hc
    · exact .none (arg_bnd ht hc)
    · exact .none (arg_bnd ht hc)
    · simp at hc
  | pick c a b =>
    simp only [chkOp] at hc
    split at hc
    · simp only [Bool.and_eq_true] at hc
      simp only [plan] at hp
      have ha := arg_bnd ht hc.1.2
      have hb' := arg_bnd ht hc.2
      split at hp
      · split at hp
        · simp only [ok, Option.some.injEq, Prod.mk.injEq] at hp
          obtain ⟨_, rfl, rfl, rfl⟩ := hp
          exact .none trivial
        · simp only [ok, Option.some.injEq, Prod.mk.injEq] at hp
          obtain ⟨_, rfl, rfl, rfl⟩ := hp
          refine .none ?_
          rename_i q _ _ _ _ _
          cases q
          · exact hb'
          · exact ha
      · simp at hp
    · simp at hc
  | alloc z =>
    simp only [plan, Option.some.injEq, Prod.mk.injEq] at hp
    obtain ⟨_, rfl, rfl, rfl⟩ := hp
    simp only [chkOp] at hc
    split at hc
    · obtain ⟨i, z', hi, hs, hz, hzv, hzo⟩ := chkZero_some hc
      exact .fresh hb (by simp [bnd]) ⟨chkVs_bnd hzv, trivial⟩
    · simp at hc
  | box x =>
    simp only [plan, Option.some.injEq, Prod.mk.injEq] at hp
    obtain ⟨_, rfl, rfl, rfl⟩ := hp
    simp only [chkOp] at hc
    split at hc
    · exact .fresh hb (by simp [bnd]) ⟨cellsOf_bnd (arg_bnd ht hc), trivial⟩
    · simp at hc
  | build z ps =>
    simp only [plan, Option.some.injEq, Prod.mk.injEq] at hp
    obtain ⟨_, rfl, rfl, rfl⟩ := hp
    simp only [chkOp] at hc
    split at hc
    · simp only [Bool.and_eq_true] at hc
      obtain ⟨i, z', hi, hs, hz, hzv, hzo⟩ := chkZero_some hc.1
      have h2 := hc.2
      split at h2
      · simp only [Bool.and_eq_true] at h2
        exact .none (fillA_bnd ht _ _ _ h2.2 (chkVs_bnd hzv))
      · simp at h2
    · simp at hc
  | mkSl z l ps =>
    simp only [plan, Option.some.injEq, Prod.mk.injEq] at hp
    obtain ⟨_, rfl, rfl, rfl⟩ := hp
    simp only [chkOp] at hc
    split at hc
    · simp only [Bool.and_eq_true] at hc
      have h2 := hc.2
      split at h2
      · simp only [Bool.and_eq_true] at h2
        obtain ⟨i, z', hi, hs, hz, hzv, hzo⟩ := chkZero_some h2.1.1.1
        exact .fresh hb (by simp [bnd]) (fillR_bnd ht _ _ _ h2.2 (replicate_bnd (chkVs_bnd hzv) _))
      · simp at h2
    · simp at hc
  | load n ag a =>
    simp only [chkOp] at hc
    split at hc
    · simp only [Bool.and_eq_true] at hc
      have ha := arg_bnd ht hc.1.1.1
      simp only [plan] at hp
      split at hp
      · rename_i nm i f hx
        cases hl : look h nm with
        | none => simp [hl] at hp
        | some row =>
          simp only [hl, Option.map_some, Option.some.injEq, Prod.mk.injEq] at hp
          obtain ⟨_, rfl, rfl, rfl⟩ := hp
          have hr := hb nm row hl
          have hc0 : bnds (· < nx) (((row.2.getD i []).drop f).take n) := bnds_take (bnds_drop (bndr_getD hr.2 i) f) n
          obtain ⟨g1, g2⟩ := openL_bnd (A := fun _ => True) _ _ hc0
          obtain ⟨g3, g4⟩ := openL_le (((row.2.getD i []).drop f).take n) nx
          have mono : ∀ k, k < nx → k < (openL nx (((row.2.getD i []).drop f).take n)).2.2 := fun k hk => by omega
          refine ⟨g3, ?_, ?_, ?_, ?_, ?_⟩
          · cases ag
            · exact bnds_getD g1 0
            · exact g1
          · intro x hx
            rcases List.mem_cons.1 hx with rfl | hx
            · exact hl
            · obtain ⟨y, hy, rfl⟩ := List.mem_map.1 hx
              exact hb.new (g4 y hy).1
          · intro x hx hn
            rcases List.mem_cons.1 hx with rfl | hx
            · simp at hn
            · obtain ⟨y, hy, rfl⟩ := List.mem_map.1 hx
              exact (g4 y hy).1
          · intro x hx
            rcases List.mem_cons.1 hx with rfl | hx
            · exact mono _ hr.1
            · obtain ⟨y, hy, rfl⟩ := List.mem_map.1 hx
              exact (g4 y hy).2
          · intro x hx row' hrow'
            rcases List.mem_cons.1 hx with rfl | hx
            · simp only [Option.some.injEq] at hrow'
              subst hrow'
              split
              · exact bndr_mono mono _ hr.2
              · exact bndr_set (bndr_mono mono _ hr.2) i (bnds_splice (bnds_mono mono _ (bndr_getD hr.2 i)) g1 f)
            · obtain ⟨y, hy, rfl⟩ := List.mem_map.1 hx
              simp only [Option.some.injEq] at hrow'
              subst hrow'
              exact g2 y hy
      · rename_i m cells f hx
        simp only [Option.some.injEq, Prod.mk.injEq] at hp
        obtain ⟨_, rfl, rfl, rfl⟩ := hp
        rw [hx] at ha
        have hc0 : bnds (· < nx) ((cells.drop f).take n) := bnds_take (bnds_drop ha f) n
        refine .none ?_
        cases ag
        · exact bnds_getD hc0 0
        · exact hc0
      · simp at hp
    · simp at hc
  | store n a z =>
    simp only [chkOp] at hc
    split at hc
    · simp only [Bool.and_eq_true] at hc
      have ha := arg_bnd ht hc.1.1
      have hz := arg_bnd ht hc.1.2
      simp only [plan] at hp
      split at hp
      · rename_i nm i f hx
        cases hl : look h nm with
        | none => simp [hl] at hp
        | some row =>
          simp only [hl, Option.map_some, Option.some.injEq, Prod.mk.injEq] at hp
          obtain ⟨_, rfl, rfl, rfl⟩ := hp
          have hr := hb nm row hl
          exact ⟨Nat.le_refl _, trivial, by simpa using hl, by simp, by simpa using hr.1, by simpa using bndr_set hr.2 i (bnds_splice (bndr_getD hr.2 i) (cellsOf_bnd hz) f)⟩
      · simp at hp
    · simp at hc
  | nilck x =>
    simp only [chkOp] at hc
    split at hc
    · have ha := arg_bnd ht hc
      simp only [plan] at hp
      split at hp
      · rename_i nm i f hx
        rw [hx] at ha
        cases hl : look h nm with
        | none => simp [hl] at hp
        | some row =>
          simp only [hl, Option.map_some, Option.some.injEq, Prod.mk.injEq] at hp
          obtain ⟨_, rfl, rfl, rfl⟩ := hp
          exact .read hb (by exact ha) hl
      · rename_i hx
        simp only [ok, Option.some.injEq, Prod.mk.injEq] at hp
        obtain ⟨_, rfl, rfl, rfl⟩ := hp
        rw [hx] at ha
        exact .none ha
      · simp at hp
    · simp at hc
  | bin b x y =>
    simp only [plan] at hp
    cases hr : binA b (x.ev ρ) (y.ev ρ) with
    | none => simp [hr] at hp
    | some r =>
      simp only [hr, Option.map_some, Option.some.injEq, Prod.mk.injEq] at hp
      obtain ⟨_, rfl, rfl, rfl⟩ := hp
      refine .none ?_
      unfold binA at hr
      split at hr
      · split at hr
        · split at hr <;> first | (simp at hr; done) | (simp only [Option.some.injEq] at hr; subst hr; trivial)
        · unfold shiftA at hr
          split at hr <;> first | (simp at hr; done) | (simp only [Option.some.injEq] at hr; subst hr; trivial)
      · split at hr <;> first | (simp at hr; done) | (simp only [Option.some.injEq] at hr; subst hr; trivial)
      · simp at hr
  | eqS ng ks x y =>
    simp only [plan] at hp
    split at hp
    · rename_i xs ys _ _
      cases hr : eqC ks xs ys with
      | none => simp [hr] at hp
      | some r =>
        simp only [hr, Option.map_some, Option.some.injEq, Prod.mk.injEq] at hp
        obtain ⟨_, rfl, rfl, rfl⟩ := hp
        exact .none trivial
    · simp at hp
  | eqB ng x y =>
    simp only [plan] at hp
    split at hp
    · simp only [ok, Option.some.injEq, Prod.mk.injEq] at hp
      obtain ⟨_, rfl, rfl, rfl⟩ := hp
      exact .none trivial
    · simp at hp
  | neNil x =>
    simp only [plan] at hp
    split at hp
    all_goals first | (simp at hp; done) | skip
    all_goals
      simp only [ok, Option.some.injEq, Prod.mk.injEq] at hp
      obtain ⟨_, rfl, rfl, rfl⟩ := hp
      exact .none trivial
  | un u x =>
    simp only [plan] at hp
    split at hp
    all_goals first | (simp at hp; done) | skip
    all_goals
      simp only [ok, Option.some.injEq, Prod.mk.injEq] at hp
      obtain ⟨_, rfl, rfl, rfl⟩ := hp
      exact .none trivial
  | cvi k x =>
    simp only [plan] at hp
    split at hp
    all_goals first | (simp at hp; done) | skip
    all_goals
      simp only [ok, Option.some.injEq, Prod.mk.injEq] at hp
      obtain ⟨_, rfl, rfl, rfl⟩ := hp
      exact .none trivial
  | cvs x =>
    simp only [chkOp] at hc
    split at hc
    · simp only [Bool.and_eq_true] at hc
      have ha := arg_bnd ht hc.1.1
      simp only [plan] at hp
      cases hsrc : srcA h 1 (x.ev ρ) with
      | none => simp [hsrc] at hp
      | some r =>
        obtain ⟨cond, xs, rd⟩ := r
        simp only [hsrc, Option.bind_some] at hp
        cases hbs : bytesOf xs with
        | none => simp [hbs] at hp
        | some l =>
          simp only [hbs, Option.map_some, Option.some.injEq, Prod.mk.injEq] at hp
          obtain ⟨_, rfl, rfl, rfl⟩ := hp
          have g := (src_bnd hsrc ha hbr).2
          exact ⟨Nat.le_refl _, trivial, fun x hx => (g x hx).1, fun x hx hn => absurd hn (g x hx).2.1, fun x hx => by
            cases hl : x.2.1 with
            | none => exact absurd hl (g x hx).2.1
            | some row => exact (hb x.1 row (by rw [(g x hx).1, hl])).1, fun x hx row hr => hbr x.1 row (by rw [(g x hx).1, ← (g x hx).2.2, hr])⟩
    · simp at hc
  | mkS z b l c =>
    simp only [chkOp] at hc
    split at hc
    · simp only [Bool.and_eq_true] at hc
      have h2 := hc.2
      split at h2
      · simp only [Bool.and_eq_true] at h2
        obtain ⟨i, z', hi, hs, hz, hzv, hzo⟩ := chkZero_some h2.1.1
        simp only [plan] at hp
        split at hp
        · simp only [Option.some.injEq, Prod.mk.injEq] at hp
          obtain ⟨_, rfl, rfl, rfl⟩ := hp
          exact .fresh hb (by simp [bnd]) (replicate_bnd (chkVs_bnd hzv) _)
        · simp at hp
      · simp at h2
    · simp at hc
  | cut s x l hi =>
    simp only [chkOp] at hc
    split at hc
    · simp only [Bool.and_eq_true] at hc
      have ha := arg_bnd ht hc.1.1.1
      simp only [plan] at hp
      cases hl0 : bnd? ρ 0 l with
      | none => simp [hl0] at hp
      | some lo =>
        simp only [hl0, Option.bind_some] at hp
        split at hp
        · cases hh : bnd? ρ 0 hi with
          | none => simp [hh] at hp
          | some k =>
            simp only [hh, Option.map_some, Option.some.injEq, Prod.mk.injEq] at hp
            obtain ⟨_, rfl, rfl, rfl⟩ := hp
            exact .none trivial
        · rename_i nm off len hx
          rw [hx] at ha
          cases hl : look h nm with
          | none => simp [hl] at hp
          | some row =>
            simp only [hl, Option.bind_some] at hp
            cases hh : bnd? ρ len hi with
            | none => simp [hh] at hp
            | some k =>
              simp only [hh, Option.map_some, Option.some.injEq, Prod.mk.injEq] at hp
              obtain ⟨_, rfl, rfl, rfl⟩ := hp
              exact .read hb (by exact ha) hl
        · rename_i s' rows hx
          rw [hx] at ha
          cases hh : bnd? ρ rows.length hi with
          | none => simp [hh] at hp
          | some k =>
            simp only [hh, Option.map_some, Option.some.injEq, Prod.mk.injEq] at hp
            obtain ⟨_, rfl, rfl, rfl⟩ := hp
            exact .none (bndr_take (bndr_drop ha _) _)
        · rename_i s' rows hx
          rw [hx] at ha
          cases hh : bnd? ρ rows.length hi with
          | none => simp [hh] at hp
          | some k =>
            simp only [hh, Option.map_some, Option.some.injEq, Prod.mk.injEq] at hp
            obtain ⟨_, rfl, rfl, rfl⟩ := hp
            exact .none (bndr_take (bndr_drop ha _) _)
        · simp at hp
    · simp at hc
  | cutS x l hi =>
    simp only [plan] at hp
    cases hl0 : bnd? ρ 0 l with
    | none => simp [hl0] at hp
    | some lo =>
      simp only [hl0, Option.bind_some] at hp
      split at hp
      · rename_i s hx
        cases hh : bnd? ρ s.size hi with
        | none => simp [hh] at hp
        | some k =>
          simp only [hh, Option.map_some, Option.some.injEq, Prod.mk.injEq] at hp
          obtain ⟨_, rfl, rfl, rfl⟩ := hp
          exact .none trivial
      · simp at hp
  | fad f x =>
    simp only [chkOp] at hc
    split at hc
    · simp only [Bool.and_eq_true] at hc
      have ha := arg_bnd ht hc.1
      simp only [plan] at hp
      split at hp
      · rename_i nm i f hx
        rw [hx] at ha
        cases hl : look h nm with
        | none => simp [hl] at hp
        | some row =>
          simp only [hl, Option.map_some, Option.some.injEq, Prod.mk.injEq] at hp
          obtain ⟨_, rfl, rfl, rfl⟩ := hp
          exact .read hb (by exact ha) hl
      · rename_i hx
        simp only [ok, Option.some.injEq, Prod.mk.injEq] at hp
        obtain ⟨_, rfl, rfl, rfl⟩ := hp
        rw [hx] at ha
        exact .none ha
      · simp at hp
    · simp at hc
  | fld f n ag x =>
    simp only [chkOp] at hc
    split at hc
    · simp only [Bool.and_eq_true] at hc
      have ha := arg_bnd ht hc.1
      simp only [plan] at hp
      split at hp
      · rename_i cs hx
        rw [hx] at ha
        simp only [Option.some.injEq, Prod.mk.injEq] at hp
        obtain ⟨_, rfl, rfl, rfl⟩ := hp
        refine .none ?_
        cases ag
        · exact bnds_getD ha f
        · exact bnds_take (bnds_drop ha f) n
      · simp at hp
    · simp at hc
  | iad s x i =>
    simp only [chkOp] at hc
    split at hc
    · simp only [Bool.and_eq_true] at hc
      have ha := arg_bnd ht hc.1.1
      simp only [plan] at hp
      split at hp
      · rename_i nm off len _ j hx hi
        rw [hx] at ha
        cases hl : look h nm with
        | none => simp [hl] at hp
        | some row =>
          simp only [hl, Option.map_some, Option.some.injEq, Prod.mk.injEq] at hp
          obtain ⟨_, rfl, rfl, rfl⟩ := hp
          exact .read hb (by exact ha) hl
      · rename_i hx hi
        rw [hx] at ha
        simp only [Option.some.injEq, Prod.mk.injEq] at hp
        obtain ⟨_, rfl, rfl, rfl⟩ := hp
        exact .none (bndr_getD ha _)
      · rename_i hx hi
        rw [hx] at ha
        simp only [Option.some.injEq, Prod.mk.injEq] at hp
        obtain ⟨_, rfl, rfl, rfl⟩ := hp
        exact .none (bndr_getD ha _)
      · simp at hp
    · simp at hc
  | idx x i =>
    simp only [plan] at hp
    split at hp
    · simp only [Option.some.injEq, Prod.mk.injEq] at hp
      obtain ⟨_, rfl, rfl, rfl⟩ := hp
      exact .none trivial
    · simp at hp
  | ext x i =>
    simp only [chkOp] at hc
    split at hc
    · simp only [Bool.and_eq_true] at hc
      have ha := arg_bnd ht hc.1
      simp only [plan] at hp
      split at hp
      · rename_i hx
        rw [hx] at ha
        simp only [Option.some.injEq, Prod.mk.injEq] at hp
        obtain ⟨_, rfl, rfl, rfl⟩ := hp
        exact .none (bnds_getD ha i)
      · simp at hp
    · simp at hc
  | len x =>
    simp only [plan] at hp
    split at hp
    · simp only [ok, Option.some.injEq, Prod.mk.injEq] at hp
      obtain ⟨_, rfl, rfl, rfl⟩ := hp
      exact .none trivial
    · rename_i nm off l hx
      cases hl : look h nm with
      | none => simp [hl] at hp
      | some row =>
        simp only [hl, Option.map_some, Option.some.injEq, Prod.mk.injEq] at hp
        obtain ⟨_, rfl, rfl, rfl⟩ := hp
        exact .read hb (v := .int _ _) trivial hl
    · simp only [ok, Option.some.injEq, Prod.mk.injEq] at hp
      obtain ⟨_, rfl, rfl, rfl⟩ := hp
      exact .none trivial
    · simp only [ok, Option.some.injEq, Prod.mk.injEq] at hp
      obtain ⟨_, rfl, rfl, rfl⟩ := hp
      exact .none trivial
    · simp at hp
  | lenS x =>
    simp only [plan] at hp
    split at hp
    · simp only [ok, Option.some.injEq, Prod.mk.injEq] at hp
      obtain ⟨_, rfl, rfl, rfl⟩ := hp
      exact .none trivial
    · simp at hp
  | mx x y =>
    simp only [plan] at hp
    split at hp
    · split at hp
      · simp only [ok, Option.some.injEq, Prod.mk.injEq] at hp
        obtain ⟨_, rfl, rfl, rfl⟩ := hp
        exact .none trivial
      · simp at hp
    · simp at hp
  | app s b x y =>
    simp only [chkOp] at hc
    split at hc
    · split at hc
      · simp only [Bool.and_eq_true] at hc
        have hx := arg_bnd ht hc.1.1.1
        have hy := arg_bnd ht hc.1.1.2
        simp only [plan] at hp
        cases hsrc : srcA h s (y.ev ρ) with
        | none => simp [hsrc] at hp
        | some r =>
          obtain ⟨cond, xs, rd⟩ := r
          simp only [hsrc, Option.bind_some] at hp
          obtain ⟨gx, g⟩ := src_bnd hsrc hy hbr
          have glt : ∀ x ∈ rd, x.1 < nx := fun x hx => by
            cases hl : x.2.1 with
            | none => exact absurd hl (g x hx).2.1
            | some row => exact (hb x.1 row (by rw [(g x hx).1, hl])).1
          have grow : ∀ x ∈ rd, ∀ row, x.2.2 = some row → bndr (· < nx) row.2 := fun x hx row hr => hbr x.1 row (by rw [(g x hx).1, ← (g x hx).2.2, hr])
          have mono : ∀ k, k < nx → k < nx + 1 := fun k hk => by omega
          split at hp
          · simp only [Option.some.injEq, Prod.mk.injEq] at hp
            obtain ⟨_, rfl, rfl, rfl⟩ := hp
            refine ⟨by omega, by simp [bnd], ?_, ?_, ?_, ?_⟩ <;> intro x hx <;> rcases List.mem_append.1 hx with hx | hx
            · exact (g x hx).1
            · simp only [List.mem_singleton] at hx; subst hx; exact hb.new (Nat.le_refl _)
            · exact fun hn => absurd hn (g x hx).2.1
            · simp only [List.mem_singleton] at hx; subst hx; exact fun _ => Nat.le_refl _
            · exact mono _ (glt x hx)
            · simp only [List.mem_singleton] at hx; subst hx; exact Nat.lt_succ_self _
            · exact fun row hr => bndr_mono mono _ (grow x hx row hr)
            · simp only [List.mem_singleton] at hx; subst hx
              intro row hr
              simp only [Option.some.injEq] at hr
              subst hr
              exact bndr_mono mono _ gx
          · rename_i nm off len hx'
            cases hl : look h nm with
            | none => simp [hl] at hp
            | some row0 =>
              simp only [hl, Option.map_some, Option.some.injEq, Prod.mk.injEq] at hp
              obtain ⟨_, rfl, rfl, rfl⟩ := hp
              have hr0 := hb nm row0 hl
              refine ⟨by omega, by simp [bnd], ?_, ?_, ?_, ?_⟩ <;> intro x hx <;> rcases List.mem_append.1 hx with hx | hx
              · exact (g x hx).1
              · simp only [List.mem_cons, List.not_mem_nil, or_false] at hx
                rcases hx with rfl | rfl
                · exact hl
                · exact hb.new (Nat.le_refl _)
              · exact fun hn => absurd hn (g x hx).2.1
              · simp only [List.mem_cons, List.not_mem_nil, or_false] at hx
                rcases hx with rfl | rfl
                · simp
                · exact fun _ => Nat.le_refl _
              · exact mono _ (glt x hx)
              · simp only [List.mem_cons, List.not_mem_nil, or_false] at hx
                rcases hx with rfl | rfl
                · exact mono _ hr0.1
                · exact Nat.lt_succ_self _
              · exact fun row hr => bndr_mono mono _ (grow x hx row hr)
              · simp only [List.mem_cons, List.not_mem_nil, or_false] at hx
                rcases hx with rfl | rfl
                · simp
                · intro row hr
                  simp only [Option.some.injEq] at hr
                  subst hr
                  exact bndr_mono mono _ (bndr_app (bndr_drop hr0.2 _) gx)
          · simp at hp
      · simp at hc
    · simp at hc
  | call f ps xs => simp [plan] at hp
  | calv f xs => simp [plan] at hp

end
end Go.Sep
