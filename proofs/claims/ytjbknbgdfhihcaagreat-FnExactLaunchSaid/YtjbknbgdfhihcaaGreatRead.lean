/- The executor of symbolic states: the texts Shape Fold Plain Lend Rep Row Row2 Read, one after the other. No condition. -/
import Derived.Test.YtjbknbgdfhihcaaGreatEqs
import Derived.Below
import Derived.ChangeArms
import Derived.WideShapes
import Derived.DataReads
/- A state told anew: names changed, temporaries and rows forgotten, slices of nothing given rows. -/
namespace Go.Sep
set_option linter.unusedVariables false
set_option linter.unusedSimpArgs false

mutual
def okB (A : Nat → Prop) : AV → Prop
  | .ptr nm _ _ => A nm
  | .ns nm _ _ => A nm
  | .agg cs => okBs A cs
  | .tup cs => okBs A cs
  | v => bnd (fun _ => False) v
def okBs (A : Nat → Prop) : List AV → Prop
  | [] => True
  | c :: cs => okB A c ∧ okBs A cs
end

def nilRs : List (List AV) → List (List AV) → Prop
  | [], ds => ds = []
  | r :: rs, ds => ∃ d ds', ds = d :: ds' ∧ nilL r d ∧ nilRs rs ds'

theorem nilV_cell : ∀ {c d : AV}, nilV c d → cellOk c = true → cellOk d = true
  | .nil, d, hn, h => by
    simp only [nilV] at hn
    rcases hn with rfl | ⟨m, sz, rfl⟩ <;> rfl
  | .agg _, d, hn, h => by simp [cellOk] at h
  | .tup _, d, hn, h => by simp [cellOk] at h
  | .any, d, hn, h => by simp [cellOk] at h
  | .int _ _, d, hn, h | .bool _, d, hn, h | .str _, d, hn, h | .fn _ _, d, hn, h | .nilp, d, hn, h | .ptr _ _ _, d, hn, h
  | .fptr _ _ _, d, hn, h | .nilI, d, hn, h | .ifc, d, hn, h | .ns _ _ _, d, hn, h | .sl _ _ _, d, hn, h => by
    simp only [nilV] at hn
    subst hn
    exact h

theorem nilL_cells : ∀ {cs ds : List AV}, nilL cs ds → cs.all cellOk = true → ds.all cellOk = true
  | [], ds, hn, h => by
    simp only [nilL] at hn
    subst hn
    rfl
  | c :: cs, ds, hn, h => by
    simp only [nilL] at hn
    obtain ⟨d, ds', rfl, h1, h2⟩ := hn
    simp only [List.all_cons, Bool.and_eq_true] at h ⊢
    exact ⟨nilV_cell h1 h.1, nilL_cells h2 h.2⟩

theorem nilRs_ok {e : Env} {W : World} {b sz : Nat} : ∀ {rs ds : List (List AV)} {o : Nat} {L : List Nat}, nilRs rs ds → RRows e W b o sz rs L → RRows e W b o sz ds L
  | [], ds, o, L, hn, h => by
    simp only [nilRs] at hn
    subst hn
    exact h
  | r :: rs, ds, o, L, hn, h => by
    simp only [nilRs] at hn
    obtain ⟨d, ds', rfl, h1, h2⟩ := hn
    simp only [RRows] at h ⊢
    obtain ⟨vs, L1, L2, g1, g2, g3, g4, g5, g6⟩ := h
    exact ⟨vs, L1, L2, ⟨by rw [nilL_length h1]; exact g1.1, nilL_cells h1 g1.2⟩, g2, g3, nilL_ok h1 g4, nilRs_ok h2 g5, g6⟩

theorem nilRs_length : ∀ {rs ds : List (List AV)}, nilRs rs ds → ds.length = rs.length
  | [], ds, h => by simp only [nilRs] at h; simp [h]
  | r :: rs, ds, h => by
    simp only [nilRs] at h
    obtain ⟨d, ds', rfl, _, h2⟩ := h
    simp [nilRs_length h2]

mutual
theorem okB_ren {e e' : Env} {A : Nat → Prop} {f : Nat → Nat} (k : Keeps e e' (fun _ => False) []) (hφ : ∀ n, A n → e'.φ n = e.φ (f n)) : ∀ (v : AV) {c : Value}, okB A v → RV e (renV f v) c [] → RV e' v c []
  | .ptr nm i o, c, ha, h => by
    simp only [okB, renV, RV] at ha h ⊢
    rw [hφ nm ha]
    exact h
  | .ns nm o l, c, ha, h => by
    simp only [okB, renV, RV] at ha h ⊢
    rw [hφ nm ha]
    exact h
  | .agg cs, c, ha, h => by
    simp only [okB, renV, RV] at ha h ⊢
    obtain ⟨vs, h1, h2⟩ := h
    exact ⟨vs, h1, okBs_ren k hφ cs ha h2⟩
  | .tup cs, c, ha, h => by
    simp only [okB, renV, RV] at ha h ⊢
    obtain ⟨vs, h1, h2⟩ := h
    exact ⟨vs, h1, okBs_ren k hφ cs ha h2⟩
  | .any, c, ha, h | .int _ _, c, ha, h | .bool _, c, ha, h | .str _, c, ha, h | .fn _ _, c, ha, h | .nilp, c, ha, h | .fptr _ _ _, c, ha, h | .nil, c, ha, h | .nilI, c, ha, h | .ifc, c, ha, h | .sl _ _ _, c, ha, h => by
    simp only [okB] at ha
    simp only [renV] at h
    exact RV_keep _ k ha h
theorem okBs_ren {e e' : Env} {A : Nat → Prop} {f : Nat → Nat} (k : Keeps e e' (fun _ => False) []) (hφ : ∀ n, A n → e'.φ n = e.φ (f n)) : ∀ (l : List AV) {cs : List Value}, okBs A l → RVs e (renL f l) cs [] → RVs e' l cs []
  | [], cs, _, h => by simpa only [RVs, renL] using h
  | v :: l, cs, ha, h => by
    simp only [okBs, renL, RVs] at ha h ⊢
    obtain ⟨c, cs', L1, L2, h1, h2, h3, h4⟩ := h
    have hL1 : L1 = [] := (nil_of_append h4).1
    have hL2 : L2 = [] := (nil_of_append h4).2
    subst hL1 hL2
    exact ⟨c, cs', [], [], h1, okB_ren k hφ v ha.1 h2, okBs_ren k hφ l ha.2 h3, rfl⟩
end

mutual
theorem okB_bnd {A B : Nat → Prop} (h : ∀ n, A n → B n) : ∀ (v : AV), okB A v → bnd B v
  | .ptr nm i o, ha => h nm ha
  | .ns nm o l, ha => h nm ha
  | .agg cs, ha => okBs_bnd h cs ha
  | .tup cs, ha => okBs_bnd h cs ha
  | .any, _ => trivial
  | .int _ _, ha | .bool _, ha | .str _, ha | .fn _ _, ha | .nilp, ha | .fptr _ _ _, ha | .nil, ha | .nilI, ha | .ifc, ha | .sl _ _ _, ha => bnd_mono (A := fun _ => False) (fun n hn => hn.elim) _ (by simpa only [okB] using ha)
theorem okBs_bnd {A B : Nat → Prop} (h : ∀ n, A n → B n) : ∀ (l : List AV), okBs A l → bnds B l
  | [], _ => trivial
  | v :: l, ha => ⟨okB_bnd h v ha.1, okBs_bnd h l ha.2⟩
end

/-- A temporary told anew. -/
def shp (E : List Nat) (A : Nat → Prop) (f : Nat → Nat) (v v' : AV) : Prop := v' = .any ∨ (∃ k, v' = .ns k 0 0 ∧ k ∈ E ∧ v = .nil) ∨ (v = renV f v' ∧ okB A v')

theorem look_mem {h : Heap} {n : Nat} {r : Row} (hl : look h n = some r) : (n, r) ∈ h := by
  induction h with
  | nil => simp [look] at hl
  | cons x h ih =>
    obtain ⟨m, s⟩ := x
    simp only [look] at hl
    split at hl
    · rename_i he
      simp only [Option.some.injEq] at hl
      subst hl he
      simp
    · exact List.mem_cons_of_mem _ (ih hl)

theorem Sub.shape (E : List Nat) (f : Nat → Nat) {t t' : List (Nat × AV)} {h h' : Heap} {nx nx' : Nat} (hn : 10 ≤ nx')
    (hh : ∀ x ∈ h', bndr (fun _ => False) x.2.2 ∧ x.1 < nx' ∧ ((x.1 ∈ E ∧ x.2.2 = [] ∧ 10 ≤ x.1) ∨ (x.1 ∉ E ∧ (∃ r0, look h (f x.1) = some (x.2.1, r0) ∧ (r0 = x.2.2 ∨ nilRs r0 x.2.2)) ∧ (x.1 < 10 → f x.1 = x.1))))
    (hi : (h'.map (fun x => f x.1)).Nodup) (hE : ∀ k ∈ E, k < nx' ∧ look h' k ≠ none)
    (ht : ∀ x ∈ t', shp E (fun n => n ∉ E ∧ look h' n ≠ none) f (lookT t x.1) x.2) : Sub (.mk t h nx) (.mk t' h' nx') := by
  rintro B a w ⟨h1, h2, hb, hbt, φ, Lf, hl⟩
  have mem : ∀ n r, look h' n = some r → (n, r) ∈ h' := fun n r hr => look_mem hr
  have inj : ∀ n m, look h' n ≠ none → look h' m ≠ none → f n = f m → n = m := by
    intro n m hn' hm' he
    cases hln : look h' n with
    | none => exact absurd hln hn'
    | some r =>
      cases hlm : look h' m with
      | none => exact absurd hlm hm'
      | some q =>
        have a1 := mem n r hln
        have a2 := mem m q hlm
        have key : ∀ (l : Heap), (l.map (fun x => f x.1)).Nodup → (n, r) ∈ l → (m, q) ∈ l → n = m := by
          intro l
          induction l with
          | nil => intro _ h; simp at h
          | cons y l ih =>
            intro hnd p1 p2
            simp only [List.map_cons, List.nodup_cons] at hnd
            rcases List.mem_cons.1 p1 with h3 | p3 <;> rcases List.mem_cons.1 p2 with h4 | p4
            · exact (congrArg Prod.fst h3).trans (congrArg Prod.fst h4).symm
            · refine absurd (List.mem_map.2 ⟨(m, q), p4, ?_⟩) hnd.1
              rw [← h3]; exact he.symm
            · refine absurd (List.mem_map.2 ⟨(n, r), p3, ?_⟩) hnd.1
              rw [← h4]; exact he
            · exact ih hnd.2 p3 p4
        exact key h' hi a1 a2
  classical
  let φ' : Nat → Spot := fun n => if look h' n = none then .dead else if n ∈ E then .nilp else φ (f n)
  let Lf' : Nat → List Nat := fun n => if n ∈ E then [] else Lf (f n)
  have φd : ∀ n, look h' n = none → φ' n = .dead := fun n hn' => by show (if look h' n = none then Spot.dead else _) = _; rw [if_pos hn']
  have φE : ∀ n, look h' n ≠ none → n ∈ E → φ' n = .nilp := fun n hn' he => by show (if look h' n = none then Spot.dead else if n ∈ E then Spot.nilp else φ (f n)) = _; rw [if_neg hn', if_pos he]
  have φo : ∀ n, look h' n ≠ none → n ∉ E → φ' n = φ (f n) := fun n hn' he => by show (if look h' n = none then Spot.dead else if n ∈ E then Spot.nilp else φ (f n)) = _; rw [if_neg hn', if_neg he]
  have LE : ∀ n, n ∈ E → Lf' n = [] := fun n he => by show (if n ∈ E then [] else Lf (f n)) = _; rw [if_pos he]
  have Lo : ∀ n, n ∉ E → Lf' n = Lf (f n) := fun n he => by show (if n ∈ E then [] else Lf (f n)) = _; rw [if_neg he]
  have old : ∀ n row, look h' n = some row → n ∉ E → ∃ r0, look h (f n) = some (row.1, r0) ∧ (r0 = row.2 ∨ nilRs r0 row.2) := by
    intro n row hr he
    rcases (hh _ (mem n row hr)).2.2 with ⟨h3, _⟩ | ⟨_, h3, _⟩
    · exact absurd h3 he
    · exact h3
  have oldn : ∀ n, look h' n ≠ none → n ∉ E → look h (f n) ≠ none := by
    intro n hn' he
    cases hr : look h' n with
    | none => exact absurd hr hn'
    | some row =>
      obtain ⟨r0, h3, _⟩ := old n row hr he
      simp [h3]
  have hk : ∀ L : List Nat, Keeps (B.env w φ) (B.env w φ') (fun _ => False) L := fun L => { num := rfl, fr := fun m b hb' => by cases m <;> exact hb', cells := fun b _ o => rfl, φ := fun n hn' => hn'.elim, own := fun b _ => rfl }
  refine ⟨h1, h2, ?_, ?_, φ', Lf', ?_, ?_, ?_, hn⟩
  · intro n row hr
    have := hh _ (mem n row hr)
    exact ⟨this.2.1, bndr_mono (fun k hk => hk.elim) _ this.1⟩
  · intro n
    have key : ∀ (l : List (Nat × AV)), (∀ x ∈ l, shp E (fun n => n ∉ E ∧ look h' n ≠ none) f (lookT t x.1) x.2) → bnd (· < nx') (lookT l n) := by
      intro l
      induction l with
      | nil => intro _; trivial
      | cons y l ih =>
        intro hy
        obtain ⟨m, v⟩ := y
        simp only [lookT]
        split
        · rcases hy (m, v) (by simp) with h3 | ⟨k, h3, h4, _⟩ | ⟨_, h4⟩
          · simp only at h3; subst h3; trivial
          · simp only at h3; subst h3; exact (hE k h4).1
          · refine okB_bnd (fun n hn' => ?_) v h4
            cases hr : look h' n with
            | none => exact absurd hr hn'.2
            | some row => exact (hh _ (mem n row hr)).2.1
        · exact ih (fun x hx => hy x (by simp [hx]))
    exact key t' ht
  · exact {
      size0 := hl.ok.size0
      io0 := hl.ok.io0
      fr := hl.ok.fr
      keep0 := hl.ok.keep0
      own0 := fun n hn' b hb' => by
        by_cases he : n ∈ E
        · rw [LE n he] at hb'; simp at hb'
        · rw [Lo n he] at hb'
          exact hl.ok.own0 (f n) (oldn n hn' he) b hb'
      rh := {
        row := fun n row hr => by
          have hne : look h' n ≠ none := by simp [hr]
          unfold RowAt RowSp
          by_cases he : n ∈ E
          · have h3 : (B.env w φ').φ n = .nilp := φE n hne he
            rw [h3, LE n he]
            rcases (hh _ (mem n row hr)).2.2 with ⟨_, h4, _⟩ | ⟨h4, _⟩
            · exact ⟨h4, rfl⟩
            · exact absurd he h4
          · have h3 : (B.env w φ').φ n = φ (f n) := φo n hne he
            rw [h3, Lo n he]
            obtain ⟨r0, h4, h5⟩ := old n row hr he
            have h6 := hl.ok.rh.row (f n) _ h4
            have hbr := (hh _ (mem n row hr)).1
            have h6' : (match φ (f n) with | .dead => False | .nilp => r0 = [] ∧ Lf (f n) = [] | .at p => p.sz = row.1 ∧ OwnBlk w p r0.length ∧ ∃ Lr, RRows (B.env w φ) w p.block p.off p.sz r0 Lr ∧ Lf (f n) = p.block :: Lr) := h6
            cases hq : φ (f n) with
            | dead => rw [hq] at h6'; exact h6'.elim
            | nilp =>
              rw [hq] at h6'
              refine ⟨?_, h6'.2⟩
              rcases h5 with h5 | h5
              · rw [← h5]; exact h6'.1
              · rw [h6'.1] at h5; simpa [nilRs] using h5
            | «at» p =>
              rw [hq] at h6'
              obtain ⟨g1, g2, Lr, g3, g4⟩ := h6'
              have hlen : row.2.length = r0.length := by
                rcases h5 with h5 | h5
                · rw [h5]
                · exact nilRs_length h5
              refine ⟨g1, by rw [hlen]; exact g2, Lr, ?_, g4⟩
              refine RRows_keep row.2 (hk Lr) hbr (fun _ _ => rfl) ?_
              rcases h5 with h5 | h5
              · rw [← h5]; exact g3
              · exact nilRs_ok h5 g3
        nodup := fun n hn' => by
          by_cases he : n ∈ E
          · rw [LE n he]; exact List.nodup_nil
          · rw [Lo n he]; exact hl.ok.rh.nodup _ (oldn n hn' he)
        blk := fun n hn' b hb' => by
          by_cases he : n ∈ E
          · rw [LE n he] at hb'; simp at hb'
          · rw [Lo n he] at hb'; exact hl.ok.rh.blk _ (oldn n hn' he) b hb'
        dis := fun n m hn' hm' hne b hb1 hb2 => by
          by_cases he : n ∈ E
          · rw [LE n he] at hb1; simp at hb1
          · by_cases hg : m ∈ E
            · rw [LE m hg] at hb2; simp at hb2
            · rw [Lo n he] at hb1
              rw [Lo m hg] at hb2
              exact hl.ok.rh.dis _ _ (oldn n hn' he) (oldn m hm' hg) (fun hf => hne (inj n m hn' hm' hf)) b hb1 hb2
        dead := fun n hn' => φd n hn' } }
  · intro n
    have key : ∀ (l : List (Nat × AV)), (∀ x ∈ l, shp E (fun n => n ∉ E ∧ look h' n ≠ none) f (lookT t x.1) x.2) → RV (B.env w φ') (lookT l n) (a.tmps.getD n undef) [] := by
      intro l
      induction l with
      | nil => intro _; simp [lookT, RV]
      | cons y l ih =>
        intro hy
        obtain ⟨m, v⟩ := y
        simp only [lookT]
        split
        · rename_i hnm
          subst hnm
          have h0 := hl.tm n
          rcases hy (n, v) (by simp) with h3 | ⟨k, h3, h4, h5⟩ | ⟨h3, h4⟩
          · simp only at h3; subst h3; simp [RV]
          · simp only at h3 h5; subst h3
            rw [h5] at h0
            simp only [RV] at h0
            have hφk : (B.env w φ').φ k = .nilp := φE k (hE k h4).2 h4
            simp only [RV, hφk, true_and]
            exact ⟨none, h0.1⟩
          · simp only at h3 h4
            rw [h3] at h0
            exact okB_ren (hk []) (fun m hm => φo m hm.2 hm.1) v h4 h0
        · exact ih (fun x hx => hy x (by simp [hx]))
    exact key t' ht
  · intro n hn'
    obtain ⟨h3, h4⟩ := hl.φ0 n hn'
    refine ⟨h3, ?_⟩
    cases hr : look h' n with
    | none => exact .inr (φd n hr)
    | some row =>
      rcases (hh _ (mem n row hr)).2.2 with ⟨_, _, h5⟩ | ⟨h5, _, h6⟩
      · simp only at h5; omega
      · rw [φo n (by simp [hr]) h5, h6 h3]
        exact h4

end Go.Sep

/- A named row of our own that stands in a cell of another row is told there by what it holds. -/
namespace Go.Sep
set_option linter.unusedVariables false
set_option linter.unusedSimpArgs false

theorem getElem_mem_of {α : Type} {l : List α} {i : Nat} {x : α} (h : l[i]? = some x) : x ∈ l := by
  obtain ⟨hi, rfl⟩ := List.getElem?_eq_some_iff.1 h
  exact List.getElem_mem hi

theorem bndr_part {A : Nat → Prop} {off len : Nat} {rows : List (List AV)} (h : bndr A rows) : bndr A (partR off len rows) := by
  rw [partR_eq]
  exact bndr_iff.2 fun x hx => bndr_iff.1 h x (List.mem_of_mem_drop (List.mem_of_mem_take hx))

theorem Sub.fold (nm i f k : Nat) {off : Nat} {t : List (Nat × AV)} {h : Heap} {nx sz sz' len : Nat} {rows rows' : List (List AV)} {r : List AV} (hk : look h k = some (sz', rows')) (hlen : off + len ≤ rows'.length) (hnm : look h nm = some (sz, rows)) (hne : k ≠ nm) (hk10 : 10 ≤ k)
    (hr : rows[i]? = some r) (hf : r[f]? = some (.ns k off len)) : Sub (.mk t h nx) (.mk t (del (put h nm (sz, rows.set i (r.set f (.sl .own sz' (partR off len rows'))))) k) nx) := by
  rintro B a w ⟨h1, h2, hb, hbt, φ, Lf, hl⟩
  let φ' : Nat → Spot := fun n => if n = k then .dead else φ n
  have hor : ∀ n, φ' n = φ n ∨ φ' n = .dead := fun n => by
    show (if n = k then Spot.dead else φ n) = φ n ∨ (if n = k then Spot.dead else φ n) = .dead
    by_cases hn : n = k
    · rw [if_pos hn]; exact .inr rfl
    · rw [if_neg hn]; exact .inl rfl
  have hkeep : ∀ (A : Nat → Prop) (L : List Nat), Keeps (B.env w φ) (B.env w φ') A L := fun A L => { num := rfl, fr := fun m b hb' => by cases m <;> exact hb', cells := fun b _ o => rfl, φ := fun n _ => hor n, own := fun b _ => rfl }
  have hφ : ∀ n, n ≠ k → (B.env w φ').φ n = (B.env w φ).φ n := fun n hn => if_neg hn
  have rk := hl.ok.rh.row k _ hk
  have rn := hl.ok.rh.row nm _ hnm
  obtain ⟨hi, hri⟩ := List.getElem?_eq_some_iff.1 hr
  obtain ⟨hfl, hrf⟩ := List.getElem?_eq_some_iff.1 hf
  -- the row as it lies
  have key : ∃ p Lr, φ nm = .at p ∧ p.sz = sz ∧ OwnBlk w p rows.length ∧ RRows (B.env w φ) w p.block p.off p.sz rows Lr ∧ Lf nm = p.block :: Lr := by
    unfold RowAt RowSp at rn
    have he : (B.env w φ).φ nm = φ nm := rfl
    rw [he] at rn
    cases hq : φ nm with
    | dead => rw [hq] at rn; exact rn.elim
    | nilp => rw [hq] at rn; simp only at rn; rw [rn.1] at hi; simp at hi
    | «at» p =>
      rw [hq] at rn
      obtain ⟨a1, a2, Lr, a3, a4⟩ := rn
      exact ⟨p, Lr, rfl, a1, a2, a3, a4⟩
  obtain ⟨p, Lr, hp, psz, pown, prow, pL⟩ := key
  obtain ⟨vs, L1, L2, L3, s1, s2, s3, s4, s5, s6, rfl⟩ := RRows_split i hi prow
  rw [hri] at s1 s4
  have hrs : r = r.take f ++ (.ns k off len :: r.drop (f + 1)) := by rw [← hrf]; simp
  rw [hrs] at s4
  obtain ⟨A1, A2, cs1, cs2, hcs, q1, q2, rfl⟩ : ∃ A1 A2 cs1 cs2, vs = cs1 ++ cs2 ∧ RVs (B.env w φ) (r.take f) cs1 A1 ∧ RVs (B.env w φ) (.ns k off len :: r.drop (f + 1)) cs2 A2 ∧ L2 = A1 ++ A2 := by
    obtain ⟨c1, c2, M1, M2, g1, g4, g2, g3⟩ := (RVs_append _ _).1 s4
    exact ⟨M1, M2, c1, c2, g1, g2, g3, g4⟩
  simp only [RVs] at q2
  obtain ⟨v, vs', B1, B2, rfl, v1, v2, rfl⟩ := q2
  have hB1 : B1 = [] := by simp only [RV] at v1; exact v1.1
  subst hB1
  obtain ⟨L', o1, hsub, o3⟩ := RV_ns_own rk v1 hlen
  have hnew : RVs (B.env w φ) (r.set f (.sl .own sz' (partR off len rows'))) vs (A1 ++ (L' ++ B2)) := by
    have : r.set f (.sl .own sz' (partR off len rows')) = r.take f ++ (.sl .own sz' (partR off len rows') :: r.drop (f + 1)) := by rw [List.set_eq_take_append_cons_drop, if_pos hfl]
    rw [this, hcs]
    refine (RVs_append _ _).2 ⟨_, _, _, _, rfl, rfl, q1, ?_⟩
    simp only [RVs]
    exact ⟨v, vs', L', B2, rfl, o1, v2, rfl⟩
  have hsz : (r.set f (.sl .own sz' (partR off len rows'))).length = p.sz ∧ (r.set f (.sl .own sz' (partR off len rows'))).all cellOk = true := by
    refine ⟨by rw [List.length_set]; exact s1.1, ?_⟩
    refine List.all_eq_true.2 fun x hx => ?_
    rcases List.mem_or_eq_of_mem_set hx with hx | rfl
    · exact List.all_eq_true.1 s1.2 x hx
    · rfl
  have hrows := RRows_join i hi hsz s2 s3 hnew s5 s6
  let Ln : List Nat := p.block :: (L1 ++ ((A1 ++ (L' ++ B2)) ++ L3))
  have hperm : Ln.Perm (Lf nm ++ L') := by
    refine List.perm_iff_count.2 fun x => ?_
    show List.count x (p.block :: (L1 ++ ((A1 ++ (L' ++ B2)) ++ L3))) = List.count x (Lf nm ++ L')
    rw [pL]
    simp only [List.nil_append, List.count_cons, List.count_append]
    omega
  have hkn : look h k ≠ none := by rw [hk]; simp
  have hnn : look h nm ≠ none := by rw [hnm]; simp
  have hmem : ∀ x, x ∈ Ln ↔ x ∈ Lf nm ∨ x ∈ L' := fun x => by rw [hperm.mem_iff, List.mem_append]
  have hnd : Ln.Nodup := by
    refine hperm.nodup_iff.2 (List.nodup_append.2 ⟨hl.ok.rh.nodup nm hnn, ?_, fun x hx y hy hxy => ?_⟩)
    · exact o3 (hl.ok.rh.nodup k hkn)
    · subst hxy
      exact hl.ok.rh.dis k nm hkn hnn hne x (hsub x hy) hx
  let h' : Heap := del (put h nm (sz, rows.set i (r.set f (.sl .own sz' (partR off len rows'))))) k
  have hlook : ∀ n, look h' n = if n = k then none else if n = nm then some (sz, rows.set i (r.set f (.sl .own sz' (partR off len rows')))) else look h n := fun n => by
    show look (del _ k) n = _
    rw [look_del]
    by_cases hn : n = k
    · rw [if_pos hn, if_pos hn]
    · rw [if_neg hn, if_neg hn, look_put]
  let Lf' : Nat → List Nat := fun n => if n = k then [] else if n = nm then Ln else Lf n
  have Lk : Lf' k = [] := if_pos rfl
  have Lnm : Lf' nm = Ln := by show (if nm = k then [] else if nm = nm then Ln else Lf nm) = Ln; rw [if_neg (Ne.symm hne), if_pos rfl]
  have Lo : ∀ n, n ≠ k → n ≠ nm → Lf' n = Lf n := fun n a b => by show (if n = k then [] else if n = nm then Ln else Lf n) = Lf n; rw [if_neg a, if_neg b]
  have lookk : look h' k = none := by rw [hlook, if_pos rfl]
  have lookn : look h' nm = some (sz, rows.set i (r.set f (.sl .own sz' (partR off len rows')))) := by rw [hlook, if_neg (Ne.symm hne), if_pos rfl]
  have looko : ∀ n, n ≠ k → n ≠ nm → look h' n = look h n := fun n a b => by rw [hlook, if_neg a, if_neg b]
  -- where a block of the new rows comes from
  have from_ : ∀ n, look h' n ≠ none → ∀ b ∈ Lf' n, (b ∈ Lf n ∧ look h n ≠ none) ∨ (n = nm ∧ b ∈ Lf k) := by
    intro n hn b hb'
    by_cases hnk : n = k
    · subst hnk; exact absurd lookk hn
    · by_cases hnn' : n = nm
      · subst hnn'
        rw [Lnm] at hb'
        rcases (hmem b).1 hb' with hx | hx
        · exact .inl ⟨hx, hnn⟩
        · exact .inr ⟨rfl, hsub b hx⟩
      · rw [Lo n hnk hnn'] at hb'
        rw [looko n hnk hnn'] at hn
        exact .inl ⟨hb', hn⟩
  refine ⟨h1, h2, ?_, hbt, φ', Lf', ?_, ?_, ?_, hl.ten⟩
  · intro n row hr'
    rw [hlook] at hr'
    split at hr'
    · simp at hr'
    · split at hr'
      · rename_i _ hn
        simp only [Option.some.injEq] at hr'
        subst hr'
        obtain ⟨b1, b2⟩ := hb nm _ hnm
        obtain ⟨b3, b4⟩ := hb k _ hk
        refine ⟨by omega, bndr_iff.2 fun x hx => ?_⟩
        rcases List.mem_or_eq_of_mem_set hx with hx | rfl
        · exact bndr_iff.1 b2 x hx
        · refine bnds_iff.2 fun y hy => ?_
          rcases List.mem_or_eq_of_mem_set hy with hy | rfl
          · exact bnds_iff.1 (bndr_iff.1 b2 r (getElem_mem_of hr)) y hy
          · exact bndr_part b4
      · exact hb n row hr'
  · refine { size0 := hl.ok.size0, io0 := hl.ok.io0, fr := hl.ok.fr, keep0 := hl.ok.keep0, own0 := ?_, rh := { row := ?_, nodup := ?_, blk := ?_, dis := ?_, dead := ?_ } }
    · intro n hn b hb'
      rcases from_ n hn b hb' with ⟨x1, x2⟩ | ⟨_, x1⟩
      · exact hl.ok.own0 n x2 b x1
      · exact hl.ok.own0 k hkn b x1
    · intro n row hr'
      by_cases hnk : n = k
      · subst hnk; rw [lookk] at hr'; simp at hr'
      · by_cases hnn' : n = nm
        · subst hnn'
          rw [lookn] at hr'
          simp only [Option.some.injEq] at hr'
          subst hr'
          rw [Lnm]
          unfold RowAt RowSp
          rw [hφ n hnk]
          have he : (B.env w φ).φ n = .at p := hp
          rw [he]
          refine ⟨psz, by rw [List.length_set]; exact pown, _, ?_, rfl⟩
          exact RRows_keep (A := fun _ => True) _ (hkeep _ _) (bndr_iff.2 fun x _ => bnds_iff.2 fun y _ => bnd_mono (A := (· < nx)) (fun _ _ => trivial) y (by
            obtain ⟨b1, b2⟩ := hb n _ hnm
            obtain ⟨b3, b4⟩ := hb k _ hk
            rename_i hx hy
            rcases List.mem_or_eq_of_mem_set hx with hx | rfl
            · exact bnds_iff.1 (bndr_iff.1 b2 x hx) y hy
            · rcases List.mem_or_eq_of_mem_set hy with hy | rfl
              · exact bnds_iff.1 (bndr_iff.1 b2 r (getElem_mem_of hr)) y hy
              · exact bndr_part b4)) (fun _ _ => rfl) hrows
        · rw [looko n hnk hnn'] at hr'
          rw [Lo n hnk hnn']
          exact (hl.ok.rh.row n row hr').keep (hkeep _ _) (hφ n hnk) (hb n row hr').2
    · intro n hn
      by_cases hnk : n = k
      · subst hnk; exact absurd lookk hn
      · by_cases hnn' : n = nm
        · subst hnn'; rw [Lnm]; exact hnd
        · rw [Lo n hnk hnn']
          rw [looko n hnk hnn'] at hn
          exact hl.ok.rh.nodup n hn
    · intro n hn b hb'
      rcases from_ n hn b hb' with ⟨x1, x2⟩ | ⟨_, x1⟩
      · exact hl.ok.rh.blk n x2 b x1
      · exact hl.ok.rh.blk k hkn b x1
    · intro n m hn hm hnm' b hb1 hb2
      have nk : n ≠ k := fun he => by subst he; exact hn lookk
      have mk : m ≠ k := fun he => by subst he; exact hm lookk
      rcases from_ n hn b hb1 with ⟨x1, x2⟩ | ⟨rfl, x1⟩ <;> rcases from_ m hm b hb2 with ⟨y1, y2⟩ | ⟨rfl, y1⟩
      · exact hl.ok.rh.dis n m x2 y2 hnm' b x1 y1
      · exact hl.ok.rh.dis n k x2 hkn nk b x1 y1
      · exact hl.ok.rh.dis m k y2 hkn mk b y1 x1
      · exact hnm' rfl
    · intro n hn
      show (if n = k then Spot.dead else φ n) = .dead
      by_cases hnk : n = k
      · rw [if_pos hnk]
      · rw [if_neg hnk]
        by_cases hnn' : n = nm
        · subst hnn'; rw [lookn] at hn; simp at hn
        · rw [looko n hnk hnn'] at hn
          exact hl.ok.rh.dead n hn
  · intro n
    exact RV_keep (A := (· < nx)) _ (hkeep _ _) (hbt n) (hl.tm n)
  · intro n hn
    obtain ⟨x1, x2⟩ := hl.φ0 n hn
    refine ⟨x1, ?_⟩
    show (if n = k then Spot.dead else φ n) = B.φ0 n ∨ (if n = k then Spot.dead else φ n) = .dead
    by_cases hnk : n = k
    · rw [if_pos hnk]; exact .inr rfl
    · rw [if_neg hnk]; exact x2

theorem Sub.foldLast (nm f k : Nat) {off : Nat} {t : List (Nat × AV)} {h : Heap} {nx sz sz' len : Nat} {front rows' : List (List AV)} {r : List AV} (hk : look h k = some (sz', rows')) (hlen : off + len ≤ rows'.length) (hnm : look h nm = some (sz, front ++ [r])) (hne : k ≠ nm) (hk10 : 10 ≤ k)
    (hf : r[f]? = some (.ns k off len)) : Sub (.mk t h nx) (.mk t (del (put h nm (sz, front ++ [r.set f (.sl .own sz' (partR off len rows'))])) k) nx) := by
  have := Sub.fold nm front.length f k (t := t) (nx := nx) hk hlen hnm hne hk10 (r := r) (by simp) hf
  rw [List.set_append_right _ _ (Nat.le_refl _), Nat.sub_self, List.set_cons_zero] at this
  exact this

theorem Sub.fold1 (nm f k : Nat) {off : Nat} {t : List (Nat × AV)} {h : Heap} {nx sz sz' len : Nat} {rows' : List (List AV)} {r : List AV} (hk : look h k = some (sz', rows')) (hlen : off + len ≤ rows'.length) (hnm : look h nm = some (sz, [r])) (hne : k ≠ nm) (hk10 : 10 ≤ k)
    (hf : r[f]? = some (.ns k off len)) : Sub (.mk t h nx) (.mk t (del (put h nm (sz, [r.set f (.sl .own sz' (partR off len rows'))])) k) nx) :=
  Sub.fold nm 0 f k (t := t) (nx := nx) hk hlen hnm hne hk10 (r := r) (by simp) hf

theorem Sub.foldAt (nm f k : Nat) {off i : Nat} {t : List (Nat × AV)} {h : Heap} {nx sz sz' len : Nat} {l rows' : List (List AV)} {r : List AV} (hk : look h k = some (sz', rows')) (hlen : off + len ≤ rows'.length) (hnm : look h nm = some (sz, l.set i r)) (hne : k ≠ nm) (hk10 : 10 ≤ k)
    (hf : r[f]? = some (.ns k off len)) (hi : i < l.length) : Sub (.mk t h nx) (.mk t (del (put h nm (sz, l.set i (r.set f (.sl .own sz' (partR off len rows'))))) k) nx) := by
  have := Sub.fold nm i f k (t := t) (nx := nx) hk hlen hnm hne hk10 (r := r) (by simp [hi]) hf
  rw [List.set_set] at this
  exact this

end Go.Sep

/- Calls whose arguments and result are plain values: nothing is lent, nothing handed over. -/
namespace Go.Sep
set_option linter.unusedVariables false
set_option linter.unusedSimpArgs false

mutual
def plainV : AV → Bool
  | .int _ _ | .bool _ | .str _ => true
  | .agg cs | .tup cs => plainL cs
  | _ => false
def plainL : List AV → Bool
  | [] => true
  | c :: cs => plainV c && plainL cs
end

mutual
theorem plainV_bw (h : Heap) : ∀ (v : AV), plainV v = true → bwT h v = v
  | .int _ _, _ | .bool _, _ | .str _, _ => by simp [bwT, bwC]
  | .agg cs, hp => by simp only [plainV] at hp; simp only [bwT, plainL_bw h cs hp]
  | .tup cs, hp => by simp only [plainV] at hp; simp only [bwT, plainL_bw h cs hp]
  | .any, hp | .fn _ _, hp | .nilp, hp | .ptr _ _ _, hp | .fptr _ _ _, hp | .nil, hp | .nilI, hp | .ifc, hp | .ns _ _ _, hp | .sl _ _ _, hp => by simp [plainV] at hp
theorem plainL_bw (h : Heap) : ∀ (l : List AV), plainL l = true → bwTs h l = l
  | [], _ => by simp [bwTs]
  | c :: cs, hp => by
    simp only [plainL, Bool.and_eq_true] at hp
    simp only [bwTs, plainV_bw h c hp.1, plainL_bw h cs hp.2]
end
mutual
theorem plainV_ok (h : Heap) (F : Nat → Prop) : ∀ (v : AV), plainV v = true → bwOk h F v
  | .int _ _, _ | .bool _, _ | .str _, _ => by simp [bwOk, bnd]
  | .agg cs, hp => by simp only [plainV] at hp; simp only [bwOk]; exact plainL_ok h F cs hp
  | .tup cs, hp => by simp only [plainV] at hp; simp only [bwOk]; exact plainL_ok h F cs hp
  | .any, hp | .fn _ _, hp | .nilp, hp | .ptr _ _ _, hp | .fptr _ _ _, hp | .nil, hp | .nilI, hp | .ifc, hp | .ns _ _ _, hp | .sl _ _ _, hp => by simp [plainV] at hp
theorem plainL_ok (h : Heap) (F : Nat → Prop) : ∀ (l : List AV), plainL l = true → bwOks h F l
  | [], _ => by simp [bwOks]
  | c :: cs, hp => by
    simp only [plainL, Bool.and_eq_true] at hp
    simp only [bwOks]
    exact ⟨plainV_ok h F c hp.1, plainL_ok h F cs hp.2⟩
end
mutual
theorem plainV_okV (A : Nat → Prop) : ∀ (v : AV), plainV v = true → okV A v
  | .int _ _, _ | .bool _, _ | .str _, _ => by simp [okV, nb]
  | .agg cs, hp => by simp only [plainV] at hp; simp only [okV]; exact plainL_okL A cs hp
  | .tup cs, hp => by simp only [plainV] at hp; simp only [okV]; exact plainL_okL A cs hp
  | .any, hp | .fn _ _, hp | .nilp, hp | .ptr _ _ _, hp | .fptr _ _ _, hp | .nil, hp | .nilI, hp | .ifc, hp | .ns _ _ _, hp | .sl _ _ _, hp => by simp [plainV] at hp
theorem plainL_okL (A : Nat → Prop) : ∀ (l : List AV), plainL l = true → okL A l
  | [], _ => by simp [okL]
  | c :: cs, hp => by
    simp only [plainL, Bool.and_eq_true] at hp
    simp only [okL]
    exact ⟨plainV_okV A c hp.1, plainL_okL A cs hp.2⟩
end
mutual
theorem plainV_ren (f : Nat → Nat) : ∀ (v : AV), plainV v = true → renV f v = v
  | .int _ _, _ | .bool _, _ | .str _, _ => by simp [renV]
  | .agg cs, hp => by simp only [plainV] at hp; simp only [renV, plainL_ren f cs hp]
  | .tup cs, hp => by simp only [plainV] at hp; simp only [renV, plainL_ren f cs hp]
  | .any, hp | .fn _ _, hp | .nilp, hp | .ptr _ _ _, hp | .fptr _ _ _, hp | .nil, hp | .nilI, hp | .ifc, hp | .ns _ _ _, hp | .sl _ _ _, hp => by simp [plainV] at hp
theorem plainL_ren (f : Nat → Nat) : ∀ (l : List AV), plainL l = true → renL f l = l
  | [], _ => by simp [renL]
  | c :: cs, hp => by
    simp only [plainL, Bool.and_eq_true] at hp
    simp only [renL, plainV_ren f c hp.1, plainL_ren f cs hp.2]
end
mutual
theorem plainV_open (n : Nat) : ∀ (v : AV), plainV v = true → openV n v = (v, [], n)
  | .int _ _, _ | .bool _, _ | .str _, _ => by simp [openV]
  | .agg cs, hp => by simp only [plainV] at hp; simp only [openV, plainL_open n cs hp]
  | .tup cs, hp => by simp only [plainV] at hp; simp only [openV, plainL_open n cs hp]
  | .any, hp | .fn _ _, hp | .nilp, hp | .ptr _ _ _, hp | .fptr _ _ _, hp | .nil, hp | .nilI, hp | .ifc, hp | .ns _ _ _, hp | .sl _ _ _, hp => by simp [plainV] at hp
theorem plainL_open (n : Nat) : ∀ (l : List AV), plainL l = true → openVs n l = (l, [], n)
  | [], _ => by simp [openVs]
  | c :: cs, hp => by
    simp only [plainL, Bool.and_eq_true] at hp
    simp only [openVs, plainV_open n c hp.1, plainL_open n cs hp.2, List.append_nil]
end
mutual
theorem nilV_refl : ∀ (v : AV), nilV v v
  | .nil => by simp [nilV]
  | .agg cs => by simp only [nilV]; exact ⟨cs, rfl, nilL_refl cs⟩
  | .tup cs => by simp only [nilV]; exact ⟨cs, rfl, nilL_refl cs⟩
  | .any | .int _ _ | .bool _ | .str _ | .fn _ _ | .nilp | .ptr _ _ _ | .fptr _ _ _ | .nilI | .ifc | .ns _ _ _ | .sl _ _ _ => by simp [nilV]
theorem nilL_refl : ∀ (l : List AV), nilL l l
  | [] => by simp [nilL]
  | c :: cs => by simp only [nilL]; exact ⟨c, cs, rfl, nilV_refl c, nilL_refl cs⟩
end

def noPass : List Bool → Bool
  | [] => true
  | b :: bs => !b && noPass bs

theorem hand_plain (ix : Nat → Nat) (h : Heap) : ∀ (ps : List Bool) (vs : List AV), noPass ps = true → plainL vs = true → hand ix h ps vs = vs
  | [], [], _, _ => by simp [hand]
  | [], v :: vs, hn, hp => by
    simp only [plainL, Bool.and_eq_true] at hp
    simp only [hand, plainV_bw h v hp.1, hand_plain ix h [] vs hn hp.2]
  | false :: ps, [], _, _ => by simp [hand]
  | false :: ps, v :: vs, hn, hp => by
    simp only [plainL, Bool.and_eq_true] at hp
    simp only [noPass, Bool.not_false, Bool.true_and] at hn
    simp only [hand, plainV_bw h v hp.1, hand_plain ix h ps vs hn hp.2]
  | true :: ps, vs, hn, _ => by simp [noPass] at hn

theorem handOk_plain (h : Heap) (A F : Nat → Prop) : ∀ (ps : List Bool) (vs : List AV), noPass ps = true → plainL vs = true → handOk h A F ps vs
  | [], [], _, _ => by simp [handOk]
  | [], v :: vs, hn, hp => by
    simp only [plainL, Bool.and_eq_true] at hp
    simp only [handOk]
    exact ⟨plainV_ok h F v hp.1, handOk_plain h A F [] vs hn hp.2⟩
  | false :: ps, [], _, _ => by simp [handOk]
  | false :: ps, v :: vs, hn, hp => by
    simp only [plainL, Bool.and_eq_true] at hp
    simp only [noPass, Bool.not_false, Bool.true_and] at hn
    simp only [handOk]
    exact ⟨plainV_ok h F v hp.1, handOk_plain h A F ps vs hn hp.2⟩
  | true :: ps, vs, hn, _ => by simp [noPass] at hn

section
variable {P : Program} {num : Nat → Nat} {fin : AS → Prop}

theorem callR_plain {f nx : Nat} {ps : List Bool} {xs : List Arg} {t : List (Nat × AV)} {h : Heap} {res : AV} {vs : List AV} (hc : CallOk P num f vs [] res) (hx : xs.map (Arg.ev (lookT t)) = vs) (hn : noPass ps = true) (hp : plainL vs = true) (hr : plainV res = true) :
    CallR P num (.call f ps xs) t h nx res [] nx := by
  have := call_ok0 (P := P) (num := num) (nx := nx) (h := h) (ps := ps) (xs := xs) (t := t) [] hc (by rw [hx, hand_plain _ _ _ _ hn hp]; exact nilL_refl _) (by rw [hx]; exact handOk_plain _ _ _ _ _ hn hp) (by simp) (by simp) (by simp) (plainV_okV _ _ hr)
  rw [plainV_ren _ _ hr, plainV_open _ _ hr] at this
  simpa [fresh] using this

/-- A call of plain values. -/
theorem call_plain {f nx : Nat} {ps : List Bool} {xs : List Arg} {t : List (Nat × AV)} {h : Heap} {res : AV} {vs : List AV} {dst : Option Nat} {k : List It} (hc : CallOk P num f vs [] res) (hx : xs.map (Arg.ev (lookT t)) = vs) (hn : noPass ps = true) (hp : plainL vs = true) (hr : plainV res = true)
    (hk : vc P num fin k (.mk (putD t dst res) h nx)) : calls P num fin (.call f ps xs) dst k (.mk t h nx) :=
  calls_intro (callR_plain hc hx hn hp hr) hk

theorem apart_nil (pend : List (Nat × List Nat)) : apart pend [] := fun _ _ _ _ x hx => by simp at hx

theorem dcall_plain {f nx : Nat} {ps : List Bool} {xs : List Arg} {t : List (Nat × AV)} {h : Heap} {res : AV} {vs : List AV} {pend : List (Nat × List Nat)} {dst : Option Nat} {tr : DTree} {k : List It} (hc : CallOk P num f vs [] res) (hx : xs.map (Arg.ev (lookT t)) = vs) (hn : noPass ps = true) (hp : plainL vs = true) (hr : plainV res = true)
    (hk : vc P num fin (.draw tr pend :: k) (.mk (putD t dst res) h nx)) : dcall P num fin (.call f ps xs) pend dst tr k t h nx :=
  dcall_intro (callR_plain hc hx hn hp hr) (apart_nil pend) hk
end
end Go.Sep

/- What is lent may be taken for what is never written any more, where nothing of it comes back. -/
namespace Go.Sep
set_option linter.unusedVariables false
set_option linter.unusedSimpArgs false

mutual
/-- All slices in it are of these modes. -/
def okM (M : Mode → Prop) : AV → Prop
  | .sl m _ rows => M m ∧ okMr M rows
  | .fptr m cells _ => M m ∧ okMs M cells
  | .fn _ cap => okMs M cap
  | .agg cs => okMs M cs
  | .tup cs => okMs M cs
  | _ => True
def okMs (M : Mode → Prop) : List AV → Prop
  | [] => True
  | c :: cs => okM M c ∧ okMs M cs
def okMr (M : Mode → Prop) : List (List AV) → Prop
  | [] => True
  | r :: rs => okMs M r ∧ okMr M rs
end

mutual
theorem okM_true : ∀ (v : AV), okM (fun _ => True) v
  | .sl _ _ rows => by simp only [okM]; exact ⟨trivial, okMr_true rows⟩
  | .fptr _ cells _ => by simp only [okM]; exact ⟨trivial, okMs_true cells⟩
  | .fn _ cap => by simp only [okM]; exact okMs_true cap
  | .agg cs => by simp only [okM]; exact okMs_true cs
  | .tup cs => by simp only [okM]; exact okMs_true cs
  | .any | .int _ _ | .bool _ | .str _ | .nilp | .ptr _ _ _ | .nil | .nilI | .ifc | .ns _ _ _ => by simp only [okM]
theorem okMs_true : ∀ (l : List AV), okMs (fun _ => True) l
  | [] => by simp only [okMs]
  | c :: cs => by simp only [okMs]; exact ⟨okM_true c, okMs_true cs⟩
theorem okMr_true : ∀ (l : List (List AV)), okMr (fun _ => True) l
  | [] => by simp only [okMr]
  | r :: rs => by simp only [okMr]; exact ⟨okMs_true r, okMr_true rs⟩
end

/-- Two memories that are alike but for what is frozen in them. -/
structure Alike (e e' : Env) (M : Mode → Prop) : Prop where
  num : e'.num = e.num
  w : e'.w = e.w
  w0 : e'.w0 = e.w0
  φ : e'.φ = e.φ
  fr : ∀ m, M m → ∀ b, e.frozen m b → e'.frozen m b

mutual
theorem RV_alike {e e' : Env} {M : Mode → Prop} (h : Alike e e' M) : ∀ (v : AV) {x : Value} {L : List Nat}, okM M v → RV e v x L → RV e' v x L
  | .any, x, L, _, hv => by simpa only [RV] using hv
  | .int _ _, x, L, _, hv => by simpa only [RV] using hv
  | .bool _, x, L, _, hv => by simpa only [RV] using hv
  | .str _, x, L, _, hv => by simpa only [RV] using hv
  | .nilp, x, L, _, hv => by simpa only [RV] using hv
  | .nil, x, L, _, hv => by simpa only [RV] using hv
  | .nilI, x, L, _, hv => by simpa only [RV] using hv
  | .ifc, x, L, _, hv => by simpa only [RV] using hv
  | .ptr _ _ _, x, L, _, hv => by simp only [RV] at hv ⊢; rw [h.φ]; exact hv
  | .ns _ _ _, x, L, _, hv => by simp only [RV] at hv ⊢; rw [h.φ]; exact hv
  | .fn f cap, x, L, ho, hv => by
    simp only [RV, okM] at hv ho ⊢
    obtain ⟨vs, h1, h2, h3⟩ := hv
    exact ⟨vs, by rw [h.num]; exact h1, RVs_alike h cap ho h2, h3⟩
  | .fptr m cells f, x, L, ho, hv => by
    simp only [RV, okM] at hv ho ⊢
    obtain ⟨h0, b, o, vs, h1, h2, h3, h4, h5⟩ := hv
    exact ⟨h0, b, o, vs, h1, h.fr m ho.1 b h2, h3, by rw [h.w0]; exact h4, RVs_alike h cells ho.2 h5⟩
  | .sl .own sz rows, x, L, ho, hv => by
    simp only [RV, okM] at hv ho ⊢
    rcases hv with hv | ⟨p, Lr, h1, h2, h3, h4, h5⟩
    · exact .inl hv
    · exact .inr ⟨p, Lr, h1, h2, by rw [h.w]; exact h3, by rw [h.w]; exact RRows_alike h rows ho.2 h4, h5⟩
  | .sl .bw sz rows, x, L, ho, hv => by
    simp only [RV, okM] at hv ho ⊢
    obtain ⟨h0, hv⟩ := hv
    refine ⟨h0, ?_⟩
    rcases hv with hv | ⟨b, o, c, h1, h2, h3, h4⟩
    · exact .inl hv
    · exact .inr ⟨b, o, c, h1, h2, h.fr _ ho.1 b h3, by rw [h.w0]; exact RRows_alike h rows ho.2 h4⟩
  | .sl .fz sz rows, x, L, ho, hv => by
    simp only [RV, okM] at hv ho ⊢
    obtain ⟨h0, hv⟩ := hv
    refine ⟨h0, ?_⟩
    rcases hv with hv | ⟨b, o, c, h1, h2, h3, h4⟩
    · exact .inl hv
    · exact .inr ⟨b, o, c, h1, h2, h.fr _ ho.1 b h3, by rw [h.w0]; exact RRows_alike h rows ho.2 h4⟩
  | .agg cs, x, L, ho, hv => by
    simp only [RV, okM] at hv ho ⊢
    obtain ⟨vs, h1, h2⟩ := hv
    exact ⟨vs, h1, RVs_alike h cs ho h2⟩
  | .tup cs, x, L, ho, hv => by
    simp only [RV, okM] at hv ho ⊢
    obtain ⟨vs, h1, h2⟩ := hv
    exact ⟨vs, h1, RVs_alike h cs ho h2⟩
theorem RVs_alike {e e' : Env} {M : Mode → Prop} (h : Alike e e' M) : ∀ (l : List AV) {xs : List Value} {L : List Nat}, okMs M l → RVs e l xs L → RVs e' l xs L
  | [], xs, L, _, hv => by simpa only [RVs] using hv
  | c :: cs, xs, L, ho, hv => by
    simp only [RVs, okMs] at hv ho ⊢
    obtain ⟨v, vs', L1, L2, h1, h2, h3, h4⟩ := hv
    exact ⟨v, vs', L1, L2, h1, RV_alike h c ho.1 h2, RVs_alike h cs ho.2 h3, h4⟩
theorem RRows_alike {e e' : Env} {M : Mode → Prop} (h : Alike e e' M) {W : World} {b o sz : Nat} : ∀ (l : List (List AV)) {L : List Nat}, okMr M l → RRows e W b o sz l L → RRows e' W b o sz l L
  | [], L, _, hv => by simpa only [RRows] using hv
  | r :: rs, L, ho, hv => by
    simp only [RRows, okMr] at hv ho ⊢
    obtain ⟨vs, L1, L2, h1, h2, h3, h4, h5, h6⟩ := hv
    exact ⟨vs, L1, L2, h1, h2, h3, RVs_alike h r ho.1 h4, RRows_alike h rs ho.2 h5, h6⟩
end

theorem CallOk.lend {P : Program} {num : Nat → Nat} {f : Nat} {args args' : List AV} {res : AV} (hc : CallOk P num f args [] res)
    (ha : ∀ (e : Env) (cs : List Value), (∀ b, ¬ e.Bo b) → RVs e args' cs [] → RVs e args cs []) (hr : okM (fun m => m = .own) res) : CallOk P num f args' [] res := by
  refine ⟨hc.1, fun e Lf cs hnum hw0 hok hargs => ?_⟩
  let eF : Env := { num := e.num, w := e.w, w0 := e.w0, φ := e.φ, Fr := fun b => e.Fr b ∨ e.Bo b, Bo := fun _ => False }
  have hal : Alike e eF (fun _ => True) := { num := rfl, w := rfl, w0 := rfl, φ := rfl, fr := fun m _ b hb => (match m, hb with | .own, hb => hb | .bw, hb => .inl hb | .fz, hb => .inl hb) }
  have hokF : Ok eF (blks Lf (preH [])) (look (preH [])) Lf := {
    size0 := hok.size0
    io0 := hok.io0
    fr := fun b hb => hok.fr b (by rcases hb with h | h; exact h; exact h.elim)
    keep0 := hok.keep0
    own0 := hok.own0
    rh := { row := fun nm row hr => by simp [preH, look] at hr, nodup := fun nm hn => by simp [preH, look] at hn, blk := fun nm hn => by simp [preH, look] at hn, dis := fun n m hn => by simp [preH, look] at hn, dead := hok.rh.dead } }
  have hargsF : RVs eF args cs [] := ha eF cs (fun b h => h) (RVs_alike hal args' (okMs_true _) hargs)
  refine Calls.mono (hc.2 eF Lf cs hnum hw0 hokF hargsF) ?_
  intro en w' hen
  cases en with
  | panicked ch => exact hen.elim
  | outgrown => exact hen.elim
  | returned v =>
    obtain ⟨e', Lf', L, hw, T, hv, hn, hb, hd⟩ := hen
    refine ⟨{ num := e'.num, w := e'.w, w0 := e'.w0, φ := e'.φ, Fr := e.Fr, Bo := e.Bo }, Lf', L, hw, { num := T.num, w0 := T.w0, Fr := rfl, Bo := rfl, io := T.io, size := T.size, keep := T.keep, φ := T.φ, φF := T.φF, rest := T.rest, row := fun nm row hn' => by simp at hn', nodup := T.nodup, blk := T.blk, dis := T.dis, dead := T.dead }, ?_, hn, hb, hd⟩
    exact RV_alike (e := e') (e' := { num := e'.num, w := e'.w, w0 := e'.w0, φ := e'.φ, Fr := e.Fr, Bo := e.Bo }) (M := fun m => m = .own) { num := rfl, w := rfl, w0 := rfl, φ := rfl, fr := fun m hm b hb => by subst hm; exact hb.elim } res hr hv

/-- Alone in a memory where nothing is but lent: what is lent is never written. -/
theorem lend_sl {e : Env} (hB : ∀ b, ¬ e.Bo b) {sz : Nat} {rows : List (List AV)} {v : Value} {L : List Nat} (h : RV e (.sl .bw sz rows) v L) : RV e (.sl .fz sz rows) v L := by
  simp only [RV] at h ⊢
  obtain ⟨h0, h⟩ := h
  refine ⟨h0, ?_⟩
  rcases h with h | ⟨b, o, c, h1, h2, h3, h4⟩
  · exact .inl h
  · exact .inr ⟨b, o, c, h1, h2, h3.elim id (fun h => (hB b h).elim), h4⟩

end Go.Sep

/- Rows of whole numbers; small laws that all walks use. -/
namespace Go.Sep
set_option linter.unusedVariables false
set_option linter.unusedSimpArgs false

theorem wrap64 {n : Int} (h0 : -(2 ^ 63) ≤ n) (h1 : n < 2 ^ 63) : IntKind.i64.wrap n = n := by
  unfold IntKind.wrap
  simp only [IntKind.bits, IntKind.signed]
  by_cases h : 0 ≤ n
  · have : n % (2 ^ 64 : Int) = n := Int.emod_eq_of_lt h (by omega)
    simp only [this]
    rw [if_neg]
    simp
    omega
  · have : n % (2 ^ 64 : Int) = n + 2 ^ 64 := by
      rw [← Int.add_emod_right n (2 ^ 64)]
      exact Int.emod_eq_of_lt (by omega) (by omega)
    simp only [this]
    rw [if_pos]
    · omega
    · simp
      omega

theorem wrap_succ {i : Nat} (h : i < 2 ^ 62) : IntKind.i64.wrap ((i : Int) + 1) = ((i + 1 : Nat) : Int) := by rw [wrap64 (by omega) (by omega)]; omega

theorem nf_app (A : Nat → Prop) (l m : List (List AV)) : bndr A (l ++ m) ↔ bndr A l ∧ bndr A m := by simp [bndr_iff, or_imp, forall_and]
theorem nf_sl (A : Nat → Prop) (m : Mode) (sz : Nat) (r : List (List AV)) : bnd A (.sl m sz r) ↔ bndr A r := by cases m <;> rfl
theorem nf_int (A : Nat → Prop) (k : IntKind) (n : Int) : bnd A (.int k n) ↔ True := Iff.rfl
theorem nf_bool (A : Nat → Prop) (b : Bool) : bnd A (.bool b) ↔ True := Iff.rfl
theorem nf_str (A : Nat → Prop) (s : ByteArray) : bnd A (.str s) ↔ True := Iff.rfl

/-- Whole numbers, one in a cell. -/
def ints (l : List Int) : List (List AV) := l.map fun n => [.int .i64 n]

theorem ints_nil : ints [] = [] := rfl
theorem ints_length (l : List Int) : (ints l).length = l.length := by simp [ints]
theorem ints_append (l m : List Int) : ints l ++ ints m = ints (l ++ m) := by simp [ints]
theorem ints_one (n : Int) : [[AV.int .i64 n]] = ints [n] := rfl
theorem ints_cons (n : Int) (l : List Int) : [AV.int .i64 n] :: ints l = ints (n :: l) := rfl
theorem ints_drop (l : List Int) (n : Nat) : (ints l).drop n = ints (l.drop n) := by simp [ints]
theorem ints_take (l : List Int) (n : Nat) : (ints l).take n = ints (l.take n) := by simp [ints]
theorem ints_rep (n : Nat) (m : Int) : List.replicate n [AV.int .i64 m] = ints (List.replicate n m) := by simp [ints]
theorem ints_set (l : List Int) (i : Nat) (m : Int) : (ints l).set i [.int .i64 m] = ints (l.set i m) := by simp [ints]
theorem ints_getD (l : List Int) (i : Nat) (h : i < l.length) : (ints l).getD i [] = [.int .i64 (l.getD i 0)] := by simp [ints, List.getD_eq_getElem?_getD, h]
theorem ints_bnd (A : Nat → Prop) (l : List Int) : bndr A (ints l) ↔ True := by
  simp only [iff_true]
  induction l with
  | nil => trivial
  | cons n l ih => exact ⟨⟨trivial, trivial⟩, ih⟩
theorem ints_nb (l : List Int) : nbr (ints l) ↔ True := by
  simp only [iff_true]
  induction l with
  | nil => trivial
  | cons n l ih => exact ⟨⟨trivial, trivial⟩, ih⟩
theorem ints_bw : ∀ (l : List Int), bwR (ints l) = ints l
  | [] => rfl
  | n :: l => by
    have := ints_bw l
    simp only [ints, List.map_cons, bwR, bwL, bwC] at this ⊢
    rw [this]
theorem ints_free (l : List Int) : free (ints l) ↔ True := by
  simp only [iff_true]
  intro r hr c hc
  simp only [ints, List.mem_map] at hr
  obtain ⟨n, _, rfl⟩ := hr
  simp only [List.mem_singleton] at hc
  subst hc
  rfl

theorem hb_nil (nx : Nat) : HB [] nx ↔ True := by
  simp only [iff_true]
  intro n r h
  simp [look] at h
theorem hb_cons (n : Nat) (r : Row) (h : Heap) (nx : Nat) (hh : HB h nx) (hn : n < nx) (hr : bndr (· < nx) r.2) : HB ((n, r) :: h) nx := by
  intro m s hs
  simp only [look] at hs
  split at hs
  · rename_i he
    simp only [Option.some.injEq] at hs
    subst hs he
    exact ⟨hn, hr⟩
  · exact hh m s hs

theorem nil_bind {α β : Type} (f : α → Option β) : (none : Option α).bind f = none := rfl

theorem drop_all {α : Type} (l : List α) (m : Nat) : (l.drop m).take (l.length - m) = l.drop m := List.take_of_length_le (by simp)

/-- Short words for operations, as the printed functions use them. -/
def xv (n k : Nat) : MOper := ⟨some n, .mv (.t k), none⟩
def xo (n : Nat) (p : MOp) : MOper := ⟨some n, p, none⟩
def xg (n : Nat) (p : MOp) (k : Nat) (b : Bool) : MOper := ⟨some n, p, some (k, b)⟩
def xr (l : List MOper) : MCode := .reg false l
def xi (n : Int) : Arg := .c (.int .i64 n)
def xz : AV := .int .i64 0

end Go.Sep

/- From a contract of a law to the kit's words. -/
namespace Go.Sep
open Go.RowKit
set_option linter.unusedVariables false
set_option linter.unusedSimpArgs false

theorem below_of_post {e : Env} {Lf : Nat → List Nat} {b : Bool} {v : Value} {w' : World} (h : Post e Lf [] (.bool b) v w') : v = .bool b ∧ Below e.w.heap.size e.w w' := by
  obtain ⟨e', Lf', L, rfl, T, hv, _⟩ := h
  simp only [RV] at hv
  exact ⟨hv.1, T.io.1, T.io.2.1, T.io.2.2, T.size, fun k hk => T.keep k hk (fun nm hF => by simp at hF)⟩

/-- The callee's memory, where a law begins: all that lies there is lent. -/
def entry (num : Nat → Nat) (W : World) : Env := { num := num, w := W, w0 := W, φ := fun _ => .dead, Fr := fun _ => False, Bo := fun b => b < W.heap.size }

theorem entry_ok (num : Nat → Nat) (W : World) : Ok (entry num W) (blks (fun _ => []) (preH [])) (look (preH [])) (fun _ => []) where
  size0 := Nat.le_refl _
  io0 := SameIo.refl _
  fr b hb := by rcases hb with hb | hb; exact hb.elim; exact ⟨hb, by simp [blks, preH]⟩
  keep0 _ _ _ := rfl
  own0 nm hn := by simp [preH, look] at hn
  rh := { row := fun nm row hr => by simp [preH, look] at hr, nodup := fun nm hn => by simp [preH, look] at hn, blk := fun nm hn => by simp [preH, look] at hn, dis := fun n m hn => by simp [preH, look] at hn, dead := fun _ _ => rfl }

end Go.Sep

/- A law's parameter that is a slice of whole numbers, read by the kit. -/
namespace Go.Sep
set_option linter.unusedVariables false
set_option linter.unusedSimpArgs false

theorem rrows_ints {e : Env} {W : World} {b : Nat} : ∀ (l : List Int) (o : Nat), (∀ i, i < l.length → W.cell? ⟨b, o + i, none⟩ = some (.int .i64 (l.getD i 0))) → RRows e W b o 1 (ints l) []
  | [], o, _ => by simp [ints, RRows]
  | n :: l, o, h => by
    have h0 := h 0 (by simp)
    have ih := rrows_ints (e := e) l (o + 1) (fun i hi => by have := h (i + 1) (by simpa using hi); rw [show o + 1 + i = o + (i + 1) by omega]; simpa using this)
    simp only [ints, List.map_cons, RRows] at ih ⊢
    refine ⟨[.int .i64 n], [], [], ⟨rfl, rfl⟩, rfl, fun j hj => ?_, by simp [RVs, RV], ih, rfl⟩
    have hj0 : j = 0 := by omega
    subst hj0
    simpa using h0

theorem rv_ints {num : Nat → Nat} {W : World} {a : Option Addr} {len cap : Nat} {zs : List Int} (h : (a = none ∧ len = 0 ∧ cap = 0 ∧ zs = []) ∨ ∃ x, a = some x ∧ len ≤ cap ∧ zs.length = cap ∧ (∀ i, i < zs.length → W.cell? (x.add i) = some (.int .i64 (zs.getD i 0)))) :
    RV (entry num W) (.sl .bw 1 (ints (zs.take len))) (.slice a len cap) [] := by
  rcases h with ⟨rfl, rfl, rfl, rfl⟩ | ⟨x, rfl, h1, h2, h3⟩
  · simp only [RV, true_and]
    exact .inl ⟨rfl, none, 0, rfl, fun _ => rfl⟩
  · simp only [RV, true_and]
    by_cases hz : len = 0
    · subst hz
      exact .inl ⟨by simp [ints], some x, cap, rfl, by simp⟩
    · obtain ⟨b, o, sp⟩ := x
      have h0 := h3 0 (by omega)
      have hsp : sp = none := by
        cases sp with
        | none => rfl
        | some s => simp only [World.cell?, Addr.add] at h0; split at h0 <;> simp at h0
      subst hsp
      refine .inr ⟨b, o, cap, ?_, ?_, ?_, ?_⟩
      · simp [ints_length, Nat.min_eq_left (h2 ▸ h1)]
      · simp [ints_length]; omega
      · have hb : b < W.heap.size := by
          rcases Nat.lt_or_ge b W.heap.size with h | h
          · exact h
          · have hn := Array.getElem?_eq_none h
            simp [World.cell?, Addr.add, hn] at h0
        exact .inr hb
      · refine rrows_ints _ _ (fun i hi => ?_)
        have hi' : i < len := by simp at hi; omega
        have := h3 i (by omega)
        rw [add_mk] at this
        show W.cell? _ = _
        rw [this]
        simp [List.getD_eq_getElem?_getD, hi']

end Go.Sep

/- What a law's parameters hold, read by the kit, told by symbolic values: whatever their types. -/
namespace Go.Sep
open Go.WideShapes
set_option linter.unusedVariables false
set_option linter.unusedSimpArgs false

/-- What stands in the n cells of a value of type t, read by the kit, is told by c of some x, of which Q holds. -/
def Reading (P : Program) (num : Nat → Nat) (t : TypeId) (n : Nat) {α : Type} (c : α → List AV) (Q : α → Prop) : Prop :=
  P.cellsOf t = n ∧ (∀ x, (c x).length = n ∧ (c x).all cellOk = true) ∧
  ∀ {H : Type} (enc : TypeId × Value → H) (W : World) (held : Bool) (fuel : Nat) (cs : List Value) (y : DataW H × List MemPlace),
    DataW.trod enc P W 0 (fun _ => true) held fuel t cs = some y → ∃ x, Q x ∧ RVs (entry num W) (c x) cs []

theorem choose_list {α : Type} {R : Nat → α → Prop} : ∀ n, (∀ i, i < n → ∃ x, R i x) → ∃ l : List α, l.length = n ∧ ∀ i x, l[i]? = some x → R i x
  | 0, _ => ⟨[], rfl, by simp⟩
  | n + 1, h => by
    obtain ⟨l, hl, hr⟩ := choose_list n (fun i hi => h i (by omega))
    obtain ⟨x, hx⟩ := h n (by omega)
    refine ⟨l ++ [x], by simp [hl], fun i y hy => ?_⟩
    rcases Nat.lt_trichotomy i n with hi | hi | hi
    · rw [List.getElem?_append_left (by omega)] at hy
      exact hr i y hy
    · subst hi
      rw [List.getElem?_append_right (by omega)] at hy
      simp [hl] at hy
      subst hy
      exact hx
    · rw [List.getElem?_eq_none (by simp; omega)] at hy
      simp at hy

section
variable {P : Program} {num : Nat → Nat} {t : TypeId}

theorem read_int (ht : P.underlying t = some (.int .i64)) (hc : P.cellsOf t = 1) : Reading P num t 1 (fun n : Int => [.int .i64 n]) (fun n => -(2 ^ 63) ≤ n ∧ n < 2 ^ 63) := by
  refine ⟨hc, fun _ => ⟨rfl, rfl⟩, fun {H} enc W held fuel cs y h => ?_⟩
  obtain ⟨n, rfl, _, hw⟩ := DataW.trod_int ht h
  refine ⟨n, ?_, by simp [RVs, RV]⟩
  simp only [Lit.wf, IntKind.min, IntKind.max, IntKind.signed, IntKind.bits, Bool.and_eq_true, decide_eq_true_eq, if_true] at hw
  omega

theorem read_u8 (ht : P.underlying t = some (.int .u8)) (hc : P.cellsOf t = 1) : Reading P num t 1 (fun n : UInt8 => [.int .u8 n.toNat]) (fun _ => True) := by
  refine ⟨hc, fun _ => ⟨rfl, rfl⟩, fun {H} enc W held fuel cs y h => ?_⟩
  obtain ⟨n, rfl, _, hw⟩ := DataW.trod_int ht h
  simp only [Lit.wf, IntKind.min, IntKind.max, IntKind.signed, IntKind.bits, Bool.and_eq_true, decide_eq_true_eq, if_false, Bool.false_eq_true] at hw
  refine ⟨UInt8.ofNat n.toNat, trivial, ?_⟩
  have : ((UInt8.ofNat n.toNat).toNat : Int) = n := by
    rw [UInt8.toNat_ofNat']
    omega
  simp only [RVs, RV, this]
  exact ⟨_, _, [], [], rfl, ⟨rfl, rfl⟩, ⟨rfl, rfl⟩, rfl⟩

theorem read_bool (ht : P.underlying t = some .bool) (hc : P.cellsOf t = 1) : Reading P num t 1 (fun b : Bool => [.bool b]) (fun _ => True) := by
  refine ⟨hc, fun _ => ⟨rfl, rfl⟩, fun {H} enc W held fuel cs y h => ?_⟩
  obtain ⟨b, rfl, _⟩ := DataW.trod_bool ht h
  exact ⟨b, trivial, by simp [RVs, RV]⟩

theorem read_str (ht : P.underlying t = some .string) (hc : P.cellsOf t = 1) : Reading P num t 1 (fun s : ByteArray => [.str s]) (fun s => s.size < 2 ^ 63) := by
  refine ⟨hc, fun _ => ⟨rfl, rfl⟩, fun {H} enc W held fuel cs y h => ?_⟩
  obtain ⟨s, rfl, _, hs⟩ := DataW.trod_string ht h
  refine ⟨s, ?_, by simp [RVs, RV]⟩
  unfold maxLen at hs
  omega

theorem rrows_of {e : Env} {W : World} {α : Type} {c : α → List AV} {b m : Nat} (hc : ∀ x, (c x).length = m ∧ (c x).all cellOk = true) : ∀ (l : List α) (o : Nat),
    (∀ i x, l[i]? = some x → ∃ cs, cs.length = m ∧ (∀ j, j < m → W.cell? ⟨b, o + i * m + j, none⟩ = cs[j]?) ∧ RVs e (c x) cs []) → RRows e W b o m (l.map c) []
  | [], o, _ => by simp [RRows]
  | x :: l, o, h => by
    obtain ⟨cs, h1, h2, h3⟩ := h 0 x (by simp)
    have ih := rrows_of (e := e) hc l (o + m) (fun i y hy => by
      obtain ⟨ds, k1, k2, k3⟩ := h (i + 1) y (by simpa using hy)
      refine ⟨ds, k1, fun j hj => ?_, k3⟩
      have := k2 j hj
      rw [Nat.succ_mul] at this
      rw [← this]
      congr 2
      omega)
    simp only [List.map_cons, RRows]
    exact ⟨cs, [], [], hc x, h1, fun j hj => by have := h2 j hj; simpa using this, h3, ih, rfl⟩

theorem read_sl {e : TypeId} {m : Nat} {α : Type} {c : α → List AV} {Q : α → Prop} (ht : P.underlying t = some (.slice e)) (hc : P.cellsOf t = 1) (hm : 0 < m) (he : Reading P num e m c Q) :
    Reading P num t 1 (fun l : List α => [.sl .bw m (l.map c)]) (fun l => l.length < 2 ^ 63 ∧ ∀ x ∈ l, Q x) := by
  refine ⟨hc, fun _ => ⟨rfl, rfl⟩, fun {H} enc W held fuel cs y h => ?_⟩
  obtain ⟨he1, he2, he3⟩ := he
  rcases DataW.trod_slice ht h with ⟨rfl, _⟩ | ⟨a, len, cap, elems, rest, n, _, rfl, _, _, hl, hx, hlen, hel, _⟩
  · refine ⟨[], by simp, ?_⟩
    simp only [RVs, RV]
    exact ⟨_, _, [], [], rfl, ⟨rfl, .inl ⟨rfl, none, 0, rfl, fun _ => rfl⟩⟩, ⟨rfl, rfl⟩, rfl⟩
  · have key : ∀ i, i < len → ∃ x, Q x ∧ ∃ ds, ds.length = m ∧ (∀ j, j < m → W.cell? ((a.add (i * m)).add j) = ds[j]?) ∧ RVs (entry num W) (c x) ds [] := by
      intro i hi
      have h1 := hel i hi
      rw [List.getElem?_eq_getElem (by omega), he1] at h1
      obtain ⟨ds, h2, h3⟩ := Option.bind_eq_some_iff.1 h1
      obtain ⟨x, h4, h5⟩ := he3 enc W held _ _ _ h3
      obtain ⟨h6, h7, h8⟩ := World.cells?_some h2
      exact ⟨x, h4, ds, h7, h8, h5⟩
    obtain ⟨l, hl1, hl2⟩ := choose_list len key
    refine ⟨l, ⟨by unfold maxLen at hx; omega, fun x hx' => ?_⟩, ?_⟩
    · obtain ⟨i, hi, rfl⟩ := List.getElem_of_mem hx'
      exact (hl2 i _ (List.getElem?_eq_getElem hi)).1
    · simp only [RVs, RV]
      refine ⟨_, _, [], [], rfl, ⟨rfl, ?_⟩, ⟨rfl, rfl⟩, rfl⟩
      by_cases hz : len = 0
      · subst hz
        have : l = [] := List.length_eq_zero_iff.1 hl1
        subst this
        exact .inl ⟨rfl, some a, cap, rfl, by simp⟩
      · obtain ⟨b, o, sp⟩ := a
        have h0 : 0 < l.length := by omega
        obtain ⟨_, ds0, k1, k2, _⟩ := hl2 0 _ (List.getElem?_eq_getElem h0)
        have k3 := k2 0 hm
        rw [List.getElem?_eq_getElem (by omega)] at k3
        simp only [Nat.zero_mul, Addr.add, if_true] at k3
        unfold World.cell? at k3
        have hb : b < W.heap.size := by
          rcases Nat.lt_or_ge b W.heap.size with h | h
          · exact h
          · simp [Array.getElem?_eq_none h] at k3
        have hsp : sp = none := by
          cases sp with
          | none => rfl
          | some s => simp at k3; split at k3 <;> simp at k3
        subst hsp
        refine .inr ⟨b, o, cap, by simp [hl1], by simp [hl1]; omega, .inr hb, rrows_of he2 l o (fun i x hx' => ?_)⟩
        obtain ⟨_, ds, p1, p2, p3⟩ := hl2 i x hx'
        exact ⟨ds, p1, fun j hj => by have := p2 j hj; rw [add_mk, add_mk] at this; exact this, p3⟩

theorem RVs_app {e : Env} : ∀ (l m : List AV) {cs ds : List Value}, RVs e l cs [] → RVs e m ds [] → RVs e (l ++ m) (cs ++ ds) []
  | [], m, cs, ds, h1, h2 => by
    simp only [RVs] at h1
    obtain ⟨rfl, _⟩ := h1
    exact h2
  | a :: l, m, cs, ds, h1, h2 => by
    simp only [RVs, List.cons_append] at h1 ⊢
    obtain ⟨v, vs, L1, L2, rfl, k1, k2, k3⟩ := h1
    have hL1 : L1 = [] := (nil_of_append k3).1
    have hL2 : L2 = [] := (nil_of_append k3).2
    subst hL1 hL2
    exact ⟨v, vs ++ ds, [], [], rfl, k1, RVs_app l m k2 h2, rfl⟩

/-- The fields of a struct, from one on, read by the kit. -/
def ReadFs (P : Program) (num : Nat → Nat) (fs : List Field) (off n : Nat) {α : Type} (c : α → List AV) (Q : α → Prop) : Prop :=
  (∀ x, (c x).length = n ∧ (c x).all cellOk = true) ∧
  ∀ {H : Type} (enc : TypeId × Value → H) (W : World) (held : Bool) (fuel : Nat) (cs : List Value), cs.length = off + n →
    (∀ f ∈ fs, ∃ y, DataW.trod enc P W 0 (fun _ => true) held fuel f.type ((cs.drop f.offset).take (P.cellsOf f.type)) = some y) → ∃ x, Q x ∧ RVs (entry num W) (c x) (cs.drop off) []

theorem read_fs0 (off : Nat) : ReadFs P num [] off 0 (fun _ : Unit => []) (fun _ => True) := by
  refine ⟨fun _ => ⟨rfl, rfl⟩, fun {H} enc W held fuel cs hl _ => ⟨(), trivial, ?_⟩⟩
  simp only [RVs]
  exact ⟨List.drop_eq_nil_of_le (by omega), trivial⟩

theorem read_fs {f : Field} {fs : List Field} {off m n : Nat} {α β : Type} {c : α → List AV} {d : β → List AV} {Q : α → Prop} {R : β → Prop} (hf : f.offset = off) (h1 : Reading P num f.type m c Q) (h2 : ReadFs P num fs (off + m) n d R) :
    ReadFs P num (f :: fs) off (m + n) (fun x : α × β => c x.1 ++ d x.2) (fun x => Q x.1 ∧ R x.2) := by
  obtain ⟨a1, a2, a3⟩ := h1
  obtain ⟨b1, b2⟩ := h2
  refine ⟨fun x => ⟨by simp [(a2 x.1).1, (b1 x.2).1], by simp [(a2 x.1).2, (b1 x.2).2]⟩, fun {H} enc W held fuel cs hl h => ?_⟩
  obtain ⟨y, hy⟩ := h f (by simp)
  rw [hf, a1] at hy
  obtain ⟨x1, q1, r1⟩ := a3 enc W held fuel _ y hy
  obtain ⟨x2, q2, r2⟩ := b2 enc W held fuel cs (by omega) (fun g hg => h g (by simp [hg]))
  refine ⟨(x1, x2), ⟨q1, q2⟩, ?_⟩
  have : cs.drop off = (cs.drop off).take m ++ cs.drop (off + m) := by
    rw [← List.drop_drop, List.take_append_drop]
  rw [this]
  exact RVs_app _ _ r1 r2

theorem read_st {fs : Array Field} {n : Nat} {α : Type} {c : α → List AV} {Q : α → Prop} (ht : P.underlying t = some (.struct fs)) (hc : P.cellsOf t = n) (h : ReadFs P num fs.toList 0 n c Q) : Reading P num t n c Q := by
  obtain ⟨b1, b2⟩ := h
  refine ⟨hc, b1, fun {H} enc W held fuel cs y h => ?_⟩
  obtain ⟨xs, k, _, _, h1, h2, h3⟩ := DataW.trod_struct ht h
  obtain ⟨x, q, r⟩ := b2 enc W held k cs (by omega) (fun f hf => by
    obtain ⟨i, hi, rfl⟩ := List.getElem_of_mem hf
    have hi' : i < fs.size := by simpa using hi
    have := h3 i fs[i] (by simp [hi'])
    rw [List.getElem?_eq_getElem (by omega)] at this
    exact ⟨_, by simpa using this⟩)
  exact ⟨x, q, by simpa using r⟩

/-- The same, told by other words. -/
theorem Reading.map {n : Nat} {α β : Type} {c : α → List AV} {d : β → List AV} {Q : α → Prop} {R : β → Prop} (h : Reading P num t n c Q) (f : α → β) (hd : ∀ x, (d x).length = n ∧ (d x).all cellOk = true) (he : ∀ x, c x = d (f x)) (hq : ∀ x, Q x → R (f x)) : Reading P num t n d R := by
  obtain ⟨h1, h2, h3⟩ := h
  refine ⟨h1, hd, fun {H} enc W held fuel cs y h => ?_⟩
  obtain ⟨x, q, r⟩ := h3 enc W held fuel cs y h
  exact ⟨f x, hq x q, he x ▸ r⟩

/-- A parameter in one cell. -/
theorem Reading.one {α : Type} {c : α → List AV} {Q : α → Prop} {H : Type} {enc : TypeId × Value → H} {W : World} {held : Bool} {v : Value} {d : DataW H} {p : List MemPlace} (h : Reading P num t 1 c Q) (hv : v.cells = #[v]) (ht : DataW.Trod enc P W 0 (fun _ => true) held t v d p) :
    ∃ x, Q x ∧ RV (entry num W) ((c x).getD 0 .any) v [] := by
  obtain ⟨fuel, hf⟩ := ht
  obtain ⟨x, q, r⟩ := h.2.2 enc W held fuel _ _ hf
  rw [hv] at r
  have hl := (h.2.1 x).1
  match hcx : c x, hl with
  | [a], _ =>
    rw [hcx] at r
    simp only [RVs] at r
    obtain ⟨v', vs', L1, L2, h1, h2, h3, h4⟩ := r
    have hL1 : L1 = [] := (nil_of_append h4).1
    subst hL1
    simp only [List.cons.injEq] at h1
    rw [h1.1]
    exact ⟨x, q, by simpa [hcx] using h2⟩

/-- A parameter that is a struct. -/
theorem Reading.agg {n : Nat} {α : Type} {c : α → List AV} {Q : α → Prop} {H : Type} {enc : TypeId × Value → H} {W : World} {held : Bool} {vs : Array Value} {d : DataW H} {p : List MemPlace} (h : Reading P num t n c Q) (ht : DataW.Trod enc P W 0 (fun _ => true) held t (.agg vs) d p) :
    ∃ x, Q x ∧ RV (entry num W) (.agg (c x)) (.agg vs) [] := by
  obtain ⟨fuel, hf⟩ := ht
  obtain ⟨x, q, r⟩ := h.2.2 enc W held fuel _ _ hf
  refine ⟨x, q, ?_⟩
  simp only [RV]
  exact ⟨vs.toList, by simp, by simpa [Value.cells] using r⟩

theorem RVs_one {e : Env} {a : AV} {as : List AV} {v : Value} {vs : List Value} (h1 : RV e a v []) (h2 : RVs e as vs []) : RVs e (a :: as) (v :: vs) [] := by
  simp only [RVs]
  exact ⟨_, _, [], [], rfl, h1, h2, rfl⟩
theorem RVs_zero {e : Env} : RVs e [] [] [] := by simp [RVs]

end
/-- The callee's memory, where a law begins: all that lies there is never written any more. -/
def entryF (num : Nat → Nat) (W : World) : Env := { num := num, w := W, w0 := W, φ := fun _ => .dead, Fr := fun b => b < W.heap.size, Bo := fun _ => False }

theorem entryF_ok (num : Nat → Nat) (W : World) : Ok (entryF num W) (blks (fun _ => []) (preH [])) (look (preH [])) (fun _ => []) where
  size0 := Nat.le_refl _
  io0 := SameIo.refl _
  fr b hb := by rcases hb with hb | hb; exact ⟨hb, by simp [blks, preH]⟩; exact hb.elim
  keep0 _ _ _ := rfl
  own0 nm hn := by simp [preH, look] at hn
  rh := { row := fun nm row hr => by simp [preH, look] at hr, nodup := fun nm hn => by simp [preH, look] at hn, blk := fun nm hn => by simp [preH, look] at hn, dis := fun n m hn => by simp [preH, look] at hn, dead := fun _ _ => rfl }

theorem RVs_plain {e e' : Env} : ∀ (cs : List AV), (∀ c ∈ cs, ∃ k n, c = .int k n) → ∀ {vs : List Value} {L : List Nat}, RVs e cs vs L → RVs e' cs vs L
  | [], _, vs, L, h => by simpa only [RVs] using h
  | c :: cs, hc, vs, L, h => by
    obtain ⟨k, n, rfl⟩ := hc c (by simp)
    simp only [RVs, RV] at h ⊢
    obtain ⟨v, vs', L1, L2, h1, h2, h3, h4⟩ := h
    exact ⟨v, vs', L1, L2, h1, h2, RVs_plain cs (fun c hc' => hc c (by simp [hc'])) h3, h4⟩

theorem RRows_plain {e e' : Env} {W : World} {b sz : Nat} : ∀ (rs : List (List AV)) (o : Nat), (∀ r ∈ rs, ∀ c ∈ r, ∃ k n, c = .int k n) → ∀ {L : List Nat}, RRows e W b o sz rs L → RRows e' W b o sz rs L
  | [], _, _, L, h => by simpa only [RRows] using h
  | r :: rs, o, hc, L, h => by
    simp only [RRows] at h ⊢
    obtain ⟨vs, L1, L2, h1, h2, h3, h4, h5, h6⟩ := h
    exact ⟨vs, L1, L2, h1, h2, h3, RVs_plain r (hc r (by simp)) h4, RRows_plain rs _ (fun r hr => hc r (by simp [hr])) h5, h6⟩

theorem RV_frozen {num : Nat → Nat} {W : World} {sz : Nat} {rows : List (List AV)} {v : Value} (hc : ∀ r ∈ rows, ∀ c ∈ r, ∃ k n, c = .int k n) (h : RV (entry num W) (.sl .bw sz rows) v []) : RV (entryF num W) (.sl .fz sz rows) v [] := by
  simp only [RV, true_and] at h ⊢
  rcases h with h | ⟨b, o, c, h1, h2, h3, h4⟩
  · exact .inl h
  · refine .inr ⟨b, o, c, h1, h2, ?_, RRows_plain rows o hc h4⟩
    rcases h3 with h3 | h3
    · exact h3.elim
    · exact h3

end Go.Sep
