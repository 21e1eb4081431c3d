/- A state told anew: names changed, temporaries and rows forgotten, slices of nothing given rows. -/
import Derived.Test.YtoijhndfkfliiaaEqs
namespace Go.Sep
set_option linter.unusedVariables false
set_option linter.unusedSimpArgs false

mutual
def okB (A : Nat → Prop) : AV → Prop
  | .ptr nm _ _ => A nm
  | .ns nm _ _ => A nm
  | .agg cs => okBs A cs
  | .tup cs => okBs A cs
  | v => bnd (fun _ => False) v
def okBs (A : Nat → Prop) : List AV → Prop
  | [] => True
  | c :: cs => okB A c ∧ okBs A cs
end

def nilRs : List (List AV) → List (List AV) → Prop
  | [], ds => ds = []
  | r :: rs, ds => ∃ d ds', ds = d :: ds' ∧ nilL r d ∧ nilRs rs ds'

theorem nilV_cell : ∀ {c d : AV}, nilV c d → cellOk c = true → cellOk d = true
  | .nil, d, hn, h => by
    simp only [nilV] at hn
    rcases hn with rfl | ⟨m, sz, rfl⟩ <;> rfl
  | .agg _, d, hn, h => by simp [cellOk] at h
  | .tup _, d, hn, h => by simp [cellOk] at h
  | .any, d, hn, h => by simp [cellOk] at h
  | .int _ _, d, hn, h | .bool _, d, hn, h | .str _, d, hn, h | .fn _ _, d, hn, h | .nilp, d, hn, h | .ptr _ _ _, d, hn, h
  | .fptr _ _ _, d, hn, h | .nilI, d, hn, h | .ifc, d, hn, h | .ns _ _ _, d, hn, h | .sl _ _ _, d, hn, h => by
    simp only [nilV] at hn
    subst hn
    exact h

theorem nilL_cells : ∀ {cs ds : List AV}, nilL cs ds → cs.all cellOk = true → ds.all cellOk = true
  | [], ds, hn, h => by
    simp only [nilL] at hn
    subst hn
    rfl
  | c :: cs, ds, hn, h => by
    simp only [nilL] at hn
    obtain ⟨d, ds', rfl, h1, h2⟩ := hn
    simp only [List.all_cons, Bool.and_eq_true] at h ⊢
    exact ⟨nilV_cell h1 h.1, nilL_cells h2 h.2⟩

theorem nilRs_ok {e : Env} {W : World} {b sz : Nat} : ∀ {rs ds : List (List AV)} {o : Nat} {L : List Nat}, nilRs rs ds → RRows e W b o sz rs L → RRows e W b o sz ds L
  | [], ds, o, L, hn, h => by
    simp only [nilRs] at hn
    subst hn
    exact h
  | r :: rs, ds, o, L, hn, h => by
    simp only [nilRs] at hn
    obtain ⟨d, ds', rfl, h1, h2⟩ := hn
    simp only [RRows] at h ⊢
    obtain ⟨vs, L1, L2, g1, g2, g3, g4, g5, g6⟩ := h
    exact ⟨vs, L1, L2, ⟨by rw [nilL_length h1]; exact g1.1, nilL_cells h1 g1.2⟩, g2, g3, nilL_ok h1 g4, nilRs_ok h2 g5, g6⟩

theorem nilRs_length : ∀ {rs ds : List (List AV)}, nilRs rs ds → ds.length = rs.length
  | [], ds, h => by simp only [nilRs] at h; simp [h]
  | r :: rs, ds, h => by
    simp only [nilRs] at h
    obtain ⟨d, ds', rfl, _, h2⟩ := h
    simp [nilRs_length h2]

mutual
theorem okB_ren {e e' : Env} {A : Nat → Prop} {f : Nat → Nat} (k : Keeps e e' (fun _ => False) []) (hφ : ∀ n, A n → e'.φ n = e.φ (f n)) : ∀ (v : AV) {c : Value}, okB A v → RV e (renV f v) c [] → RV e' v c []
  | .ptr nm i o, c, ha, h => by
    simp only [okB, renV, RV] at ha h ⊢
    rw [hφ nm ha]
    exact h
  | .ns nm o l, c, ha, h => by
    simp only [okB, renV, RV] at ha h ⊢
    rw [hφ nm ha]
    exact h
  | .agg cs, c, ha, h => by
    simp only [okB, renV, RV] at ha h ⊢
    obtain ⟨vs, h1, h2⟩ := h
    exact ⟨vs, h1, okBs_ren k hφ cs ha h2⟩
  | .tup cs, c, ha, h => by
    simp only [okB, renV, RV] at ha h ⊢
    obtain ⟨vs, h1, h2⟩ := h
    exact ⟨vs, h1, okBs_ren k hφ cs ha h2⟩
  | .any, c, ha, h | .int _ _, c, ha, h | .bool _, c, ha, h | .str _, c, ha, h | .fn _ _, c, ha, h | .nilp, c, ha, h | .fptr _ _ _, c, ha, h | .nil, c, ha, h | .nilI, c, ha, h | .ifc, c, ha, h | .sl _ _ _, c, ha, h => by
    simp only [okB] at ha
    simp only [renV] at h
    exact RV_keep _ k ha h
theorem okBs_ren {e e' : Env} {A : Nat → Prop} {f : Nat → Nat} (k : Keeps e e' (fun _ => False) []) (hφ : ∀ n, A n → e'.φ n = e.φ (f n)) : ∀ (l : List AV) {cs : List Value}, okBs A l → RVs e (renL f l) cs [] → RVs e' l cs []
  | [], cs, _, h => by simpa only [RVs, renL] using h
  | v :: l, cs, ha, h => by
    simp only [okBs, renL, RVs] at ha h ⊢
    obtain ⟨c, cs', L1, L2, h1, h2, h3, h4⟩ := h
    have hL1 : L1 = [] := (nil_of_append h4).1
    have hL2 : L2 = [] := (nil_of_append h4).2
    subst hL1 hL2
    exact ⟨c, cs', [], [], h1, okB_ren k hφ v ha.1 h2, okBs_ren k hφ l ha.2 h3, rfl⟩
end

mutual
theorem okB_bnd {A B : Nat → Prop} (h : ∀ n, A n → B n) : ∀ (v : AV), okB A v → bnd B v
  | .ptr nm i o, ha => h nm ha
  | .ns nm o l, ha => h nm ha
  | .agg cs, ha => okBs_bnd h cs ha
  | .tup cs, ha => okBs_bnd h cs ha
  | .any, _ => trivial
  | .int _ _, ha | .bool _, ha | .str _, ha | .fn _ _, ha | .nilp, ha | .fptr _ _ _, ha | .nil, ha | .nilI, ha | .ifc, ha | .sl _ _ _, ha => bnd_mono (A := fun _ => False) (fun n hn => hn.elim) _ (by simpa only [okB] using ha)
theorem okBs_bnd {A B : Nat → Prop} (h : ∀ n, A n → B n) : ∀ (l : List AV), okBs A l → bnds B l
  | [], _ => trivial
  | v :: l, ha => ⟨okB_bnd h v ha.1, okBs_bnd h l ha.2⟩
end

/-- A temporary told anew. -/
def shp (E : List Nat) (A : Nat → Prop) (f : Nat → Nat) (v v' : AV) : Prop := v' = .any ∨ (∃ k, v' = .ns k 0 0 ∧ k ∈ E ∧ v = .nil) ∨ (v = renV f v' ∧ okB A v')

theorem look_mem {h : Heap} {n : Nat} {r : Row} (hl : look h n = some r) : (n, r) ∈ h := by
  induction h with
  | nil => simp [look] at hl
  | cons x h ih =>
    obtain ⟨m, s⟩ := x
    simp only [look] at hl
    split at hl
    · rename_i he
      simp only [Option.some.injEq] at hl
      subst hl he
      simp
    · exact List.mem_cons_of_mem _ (ih hl)

theorem Sub.shape (E : List Nat) (f : Nat → Nat) {t t' : List (Nat × AV)} {h h' : Heap} {nx nx' : Nat} (hn : 10 ≤ nx')
    (hh : ∀ x ∈ h', bndr (fun _ => False) x.2.2 ∧ x.1 < nx' ∧ ((x.1 ∈ E ∧ x.2.2 = [] ∧ 10 ≤ x.1) ∨ (x.1 ∉ E ∧ (∃ r0, look h (f x.1) = some (x.2.1, r0) ∧ (r0 = x.2.2 ∨ nilRs r0 x.2.2)) ∧ (x.1 < 10 → f x.1 = x.1))))
    (hi : (h'.map (fun x => f x.1)).Nodup) (hE : ∀ k ∈ E, k < nx' ∧ look h' k ≠ none)
    (ht : ∀ x ∈ t', shp E (fun n => n ∉ E ∧ look h' n ≠ none) f (lookT t x.1) x.2) : Sub (.mk t h nx) (.mk t' h' nx') := by
  rintro B a w ⟨h1, h2, hb, hbt, φ, Lf, hl⟩
  have mem : ∀ n r, look h' n = some r → (n, r) ∈ h' := fun n r hr => look_mem hr
  have inj : ∀ n m, look h' n ≠ none → look h' m ≠ none → f n = f m → n = m := by
    intro n m hn' hm' he
    cases hln : look h' n with
    | none => exact absurd hln hn'
    | some r =>
      cases hlm : look h' m with
      | none => exact absurd hlm hm'
      | some q =>
        have a1 := mem n r hln
        have a2 := mem m q hlm
        have key : ∀ (l : Heap), (l.map (fun x => f x.1)).Nodup → (n, r) ∈ l → (m, q) ∈ l → n = m := by
          intro l
          induction l with
          | nil => intro _ h; simp at h
          | cons y l ih =>
            intro hnd p1 p2
            simp only [List.map_cons, List.nodup_cons] at hnd
            rcases List.mem_cons.1 p1 with h3 | p3 <;> rcases List.mem_cons.1 p2 with h4 | p4
            · exact (congrArg Prod.fst h3).trans (congrArg Prod.fst h4).symm
            · refine absurd (List.mem_map.2 ⟨(m, q), p4, ?_⟩) hnd.1
              rw [← h3]; exact he.symm
            · refine absurd (List.mem_map.2 ⟨(n, r), p3, ?_⟩) hnd.1
              rw [← h4]; exact he
            · exact ih hnd.2 p3 p4
        exact key h' hi a1 a2
  classical
  let φ' : Nat → Spot := fun n => if look h' n = none then .dead else if n ∈ E then .nilp else φ (f n)
  let Lf' : Nat → List Nat := fun n => if n ∈ E then [] else Lf (f n)
  have φd : ∀ n, look h' n = none → φ' n = .dead := fun n hn' => by show (if look h' n = none then Spot.dead else _) = _; rw [if_pos hn']
  have φE : ∀ n, look h' n ≠ none → n ∈ E → φ' n = .nilp := fun n hn' he => by show (if look h' n = none then Spot.dead else if n ∈ E then Spot.nilp else φ (f n)) = _; rw [if_neg hn', if_pos he]
  have φo : ∀ n, look h' n ≠ none → n ∉ E → φ' n = φ (f n) := fun n hn' he => by show (if look h' n = none then Spot.dead else if n ∈ E then Spot.nilp else φ (f n)) = _; rw [if_neg hn', if_neg he]
  have LE : ∀ n, n ∈ E → Lf' n = [] := fun n he => by show (if n ∈ E then [] else Lf (f n)) = _; rw [if_pos he]
  have Lo : ∀ n, n ∉ E → Lf' n = Lf (f n) := fun n he => by show (if n ∈ E then [] else Lf (f n)) = _; rw [if_neg he]
  have old : ∀ n row, look h' n = some row → n ∉ E → ∃ r0, look h (f n) = some (row.1, r0) ∧ (r0 = row.2 ∨ nilRs r0 row.2) := by
    intro n row hr he
    rcases (hh _ (mem n row hr)).2.2 with ⟨h3, _⟩ | ⟨_, h3, _⟩
    · exact absurd h3 he
    · exact h3
  have oldn : ∀ n, look h' n ≠ none → n ∉ E → look h (f n) ≠ none := by
    intro n hn' he
    cases hr : look h' n with
    | none => exact absurd hr hn'
    | some row =>
      obtain ⟨r0, h3, _⟩ := old n row hr he
      simp [h3]
  have hk : ∀ L : List Nat, Keeps (B.env w φ) (B.env w φ') (fun _ => False) L := fun L => { num := rfl, fr := fun m b hb' => by cases m <;> exact hb', cells := fun b _ o => rfl, φ := fun n hn' => hn'.elim, own := fun b _ => rfl }
  refine ⟨h1, h2, ?_, ?_, φ', Lf', ?_, ?_, ?_, hn⟩
  · intro n row hr
    have := hh _ (mem n row hr)
    exact ⟨this.2.1, bndr_mono (fun k hk => hk.elim) _ this.1⟩
  · intro n
    have key : ∀ (l : List (Nat × AV)), (∀ x ∈ l, shp E (fun n => n ∉ E ∧ look h' n ≠ none) f (lookT t x.1) x.2) → bnd (· < nx') (lookT l n) := by
      intro l
      induction l with
      | nil => intro _; trivial
      | cons y l ih =>
        intro hy
        obtain ⟨m, v⟩ := y
        simp only [lookT]
        split
        · rcases hy (m, v) (by simp) with h3 | ⟨k, h3, h4, _⟩ | ⟨_, h4⟩
          · simp only at h3; subst h3; trivial
          · simp only at h3; subst h3; exact (hE k h4).1
          · refine okB_bnd (fun n hn' => ?_) v h4
            cases hr : look h' n with
            | none => exact absurd hr hn'.2
            | some row => exact (hh _ (mem n row hr)).2.1
        · exact ih (fun x hx => hy x (by simp [hx]))
    exact key t' ht
  · exact {
      size0 := hl.ok.size0
      io0 := hl.ok.io0
      fr := hl.ok.fr
      keep0 := hl.ok.keep0
      own0 := fun n hn' b hb' => by
        by_cases he : n ∈ E
        · rw [LE n he] at hb'; simp at hb'
        · rw [Lo n he] at hb'
          exact hl.ok.own0 (f n) (oldn n hn' he) b hb'
      rh := {
        row := fun n row hr => by
          have hne : look h' n ≠ none := by simp [hr]
          unfold RowAt RowSp
          by_cases he : n ∈ E
          · have h3 : (B.env w φ').φ n = .nilp := φE n hne he
            rw [h3, LE n he]
            rcases (hh _ (mem n row hr)).2.2 with ⟨_, h4, _⟩ | ⟨h4, _⟩
            · exact ⟨h4, rfl⟩
            · exact absurd he h4
          · have h3 : (B.env w φ').φ n = φ (f n) := φo n hne he
            rw [h3, Lo n he]
            obtain ⟨r0, h4, h5⟩ := old n row hr he
            have h6 := hl.ok.rh.row (f n) _ h4
            have hbr := (hh _ (mem n row hr)).1
            have h6' : (match φ (f n) with | .dead => False | .nilp => r0 = [] ∧ Lf (f n) = [] | .at p => p.sz = row.1 ∧ OwnBlk w p r0.length ∧ ∃ Lr, RRows (B.env w φ) w p.block p.off p.sz r0 Lr ∧ Lf (f n) = p.block :: Lr) := h6
            cases hq : φ (f n) with
            | dead => rw [hq] at h6'; exact h6'.elim
            | nilp =>
              rw [hq] at h6'
              refine ⟨?_, h6'.2⟩
              rcases h5 with h5 | h5
              · rw [← h5]; exact h6'.1
              · rw [h6'.1] at h5; simpa [nilRs] using h5
            | «at» p =>
              rw [hq] at h6'
              obtain ⟨g1, g2, Lr, g3, g4⟩ := h6'
              have hlen : row.2.length = r0.length := by
                rcases h5 with h5 | h5
                · rw [h5]
                · exact nilRs_length h5
              refine ⟨g1, by rw [hlen]; exact g2, Lr, ?_, g4⟩
              refine RRows_keep row.2 (hk Lr) hbr (fun _ _ => rfl) ?_
              rcases h5 with h5 | h5
              · rw [← h5]; exact g3
              · exact nilRs_ok h5 g3
        nodup := fun n hn' => by
          by_cases he : n ∈ E
          · rw [LE n he]; exact List.nodup_nil
          · rw [Lo n he]; exact hl.ok.rh.nodup _ (oldn n hn' he)
        blk := fun n hn' b hb' => by
          by_cases he : n ∈ E
          · rw [LE n he] at hb'; simp at hb'
          · rw [Lo n he] at hb'; exact hl.ok.rh.blk _ (oldn n hn' he) b hb'
        dis := fun n m hn' hm' hne b hb1 hb2 => by
          by_cases he : n ∈ E
          · rw [LE n he] at hb1; simp at hb1
          · by_cases hg : m ∈ E
            · rw [LE m hg] at hb2; simp at hb2
            · rw [Lo n he] at hb1
              rw [Lo m hg] at hb2
              exact hl.ok.rh.dis _ _ (oldn n hn' he) (oldn m hm' hg) (fun hf => hne (inj n m hn' hm' hf)) b hb1 hb2
        dead := fun n hn' => φd n hn' } }
  · intro n
    have key : ∀ (l : List (Nat × AV)), (∀ x ∈ l, shp E (fun n => n ∉ E ∧ look h' n ≠ none) f (lookT t x.1) x.2) → RV (B.env w φ') (lookT l n) (a.tmps.getD n undef) [] := by
      intro l
      induction l with
      | nil => intro _; simp [lookT, RV]
      | cons y l ih =>
        intro hy
        obtain ⟨m, v⟩ := y
        simp only [lookT]
        split
        · rename_i hnm
          subst hnm
          have h0 := hl.tm n
          rcases hy (n, v) (by simp) with h3 | ⟨k, h3, h4, h5⟩ | ⟨h3, h4⟩
          · simp only at h3; subst h3; simp [RV]
          · simp only at h3 h5; subst h3
            rw [h5] at h0
            simp only [RV] at h0
            have hφk : (B.env w φ').φ k = .nilp := φE k (hE k h4).2 h4
            simp only [RV, hφk, true_and]
            exact ⟨none, h0.1⟩
          · simp only at h3 h4
            rw [h3] at h0
            exact okB_ren (hk []) (fun m hm => φo m hm.2 hm.1) v h4 h0
        · exact ih (fun x hx => hy x (by simp [hx]))
    exact key t' ht
  · intro n hn'
    obtain ⟨h3, h4⟩ := hl.φ0 n hn'
    refine ⟨h3, ?_⟩
    cases hr : look h' n with
    | none => exact .inr (φd n hr)
    | some row =>
      rcases (hh _ (mem n row hr)).2.2 with ⟨_, _, h5⟩ | ⟨h5, _, h6⟩
      · simp only at h5; omega
      · rw [φo n (by simp [hr]) h5, h6 h3]
        exact h4

end Go.Sep
