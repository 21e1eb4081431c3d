/- The executor of symbolic states: the texts CallTo CallTo2 Eqs, one after the other. No condition. -/
import Derived.Test.YtjbknbgdfhihcaaGreatOpen
/- A call, seen by the caller: out of the callee's contract. -/
namespace Go.Sep
set_option linter.unusedVariables false
set_option linter.unusedSimpArgs false

/-- The callee's names, by the caller's. -/
def rnm : List (Nat × Nat) → Nat → Nat
  | [], _ => 0
  | (a, b) :: σ, k => if k = a then b else rnm σ k

mutual
def renV (f : Nat → Nat) : AV → AV
  | .ptr nm i o => .ptr (f nm) i o
  | .ns nm o l => .ns (f nm) o l
  | .agg cs => .agg (renL f cs)
  | .tup cs => .tup (renL f cs)
  | v => v
def renL (f : Nat → Nat) : List AV → List AV
  | [] => []
  | c :: cs => renV f c :: renL f cs
end

mutual
/-- May be handed over by name: names that are known, or no names at all. -/
def okV (A : Nat → Prop) : AV → Prop
  | .ptr nm _ _ => A nm
  | .ns nm _ _ => A nm
  | .agg cs => okL A cs
  | .tup cs => okL A cs
  | .any => True
  | v => nb v
def okL (A : Nat → Prop) : List AV → Prop
  | [] => True
  | c :: cs => okV A c ∧ okL A cs
end

mutual
/-- A view of what is lent. -/
def bwT (h : Heap) : AV → AV
  | .ns nm off len => (match look h nm with | some row => .sl .bw row.1 (bwR ((row.2.drop off).take len)) | none => .any)
  | .ptr nm i f => (match look h nm with | some row => .fptr .bw (bwL (row.2.getD i [])) f | none => .any)
  | .agg cs => .agg (bwTs h cs)
  | .tup cs => .tup (bwTs h cs)
  | v => bwC v
def bwTs (h : Heap) : List AV → List AV
  | [] => []
  | c :: cs => bwT h c :: bwTs h cs
end

mutual
def bwOk (h : Heap) (F : Nat → Prop) : AV → Prop
  | .ns nm off len => ∃ row, look h nm = some row ∧ off + len ≤ row.2.length ∧ ¬ F nm ∧ bndr (fun _ => False) row.2
  | .ptr nm i f => ∃ row, look h nm = some row ∧ i < row.2.length ∧ ¬ F nm ∧ bndr (fun _ => False) row.2
  | .agg cs => bwOks h F cs
  | .tup cs => bwOks h F cs
  | v => bnd (fun _ => False) v
def bwOks (h : Heap) (F : Nat → Prop) : List AV → Prop
  | [] => True
  | c :: cs => bwOk h F c ∧ bwOks h F cs
end

theorem RRows_mid {e : Env} {W : World} {b o' sz : Nat} {rows : List (List AV)} {L : List Nat} (l n : Nat) (hl : l + n ≤ rows.length) (h : RRows e W b o' sz rows L) :
    ∃ M, (∀ x ∈ M, x ∈ L) ∧ RRows e W b (o' + l * sz) sz ((rows.drop l).take n) M := by
  have h0 : rows = rows.take l ++ ((rows.drop l).take n ++ rows.drop (l + n)) := by
    rw [← List.drop_drop, List.take_append_drop, List.take_append_drop]
  rw [h0] at h
  obtain ⟨M1, M2, _, h2, rfl⟩ := (RRows_append _ _).1 h
  obtain ⟨M3, M4, h3, _, rfl⟩ := (RRows_append _ _).1 h2
  rw [List.length_take, Nat.min_eq_left (by omega)] at h3
  exact ⟨M3, fun x hx => by simp [hx], h3⟩

section
variable {e e' : Env} {V : Nat → Prop} {h : Heap} {Lf : Nat → List Nat} {F : Nat → Prop}

mutual
theorem bwT_ok (hs : Lends e e' V) (hr : RH e (look h) Lf) (hV : ∀ nm, look h nm ≠ none → ¬ F nm → ∀ b ∈ Lf nm, V b) : ∀ (v : AV) {c : Value}, bwOk h F v → RV e v c [] → RV e' (bwT h v) c []
  | .ns nm off len, c, hk, hv => by
    simp only [bwOk] at hk
    obtain ⟨row, h1, h2, h3, h4⟩ := hk
    simp only [bwT, h1]
    have hV' := hV nm (by simp [h1]) h3
    rcases ns_at (hr.row nm row h1) hv with ⟨_, q1, rfl, rfl, aa, rfl⟩ | ⟨q, A, Lr, hq, q1, q2, q3, q4, q5, rfl, q7⟩
    · simp only [RV, q1, List.drop_nil, List.take_nil, bwR, true_and]
      exact .inl ⟨aa, 0, rfl, fun _ => rfl⟩
    · simp only [RV, true_and]
      by_cases hz : len = 0
      · subst hz
        exact .inl ⟨by simp [bwR], some A, _, rfl, by simp⟩
      · refine .inr ⟨q.block, q.off + off * q.sz, q.cap - off, ?_, ?_, ?_, ?_⟩
        · rw [q7 (by omega), bwR_length]
          congr 1
          simp
          omega
        · rw [bwR_length]
          simp
          omega
        · exact hs.bo _ (.inr (.inr (hV' _ (by rw [q4]; simp))))
        · obtain ⟨M, m1, m2⟩ := RRows_mid off len h2 q3
          rw [← q1]
          exact RRows_bw hs _ (fun b hb => hV' b (by rw [q4]; simp [m1 b hb])) (bndr_take (bndr_drop h4 _) _) (fun o' => by rw [hs.w0]) m2
  | .ptr nm i f, c, hk, hv => by
    simp only [bwOk] at hk
    obtain ⟨row, h1, h2, h3, h4⟩ := hk
    simp only [bwT, h1]
    have hV' := hV nm (by simp [h1]) h3
    have hrow := hr.row nm row h1
    obtain ⟨p, hp, rfl⟩ := ptr_at hrow hv
    unfold RowAt RowSp at hrow
    rw [hp] at hrow
    obtain ⟨e1, e2, Lr, e3, e4⟩ := hrow
    obtain ⟨vs, L1, L2, L3, g1, g2, g3, g4, _, _, g7⟩ := RRows_split i h2 e3
    simp only [RV, true_and]
    have hgd : row.2.getD i [] = row.2[i] := getD_get h2
    refine ⟨p.block, p.off + i * p.sz, vs, rfl, hs.bo _ (.inr (.inr (hV' _ (by rw [e4]; simp)))), ?_, ?_, ?_⟩
    · rw [bwL_length, hgd, g1.1, g2]
    · intro j hj
      rw [bwL_length, hgd, g1.1] at hj
      rw [hs.w0]
      exact g3 j hj
    · rw [hgd]
      exact RVs_bw hs _ (fun b hb => hV' b (by rw [e4, g7]; simp [hb])) (bndr_iff.1 h4 _ (List.getElem_mem h2)) g4
  | .agg cs, c, hk, hv => by
    simp only [bwOk, bwT, RV] at hk hv ⊢
    obtain ⟨vs, h1, h2⟩ := hv
    exact ⟨vs, h1, bwTs_ok hs hr hV cs hk h2⟩
  | .tup cs, c, hk, hv => by
    simp only [bwOk, bwT, RV] at hk hv ⊢
    obtain ⟨vs, h1, h2⟩ := hv
    exact ⟨vs, h1, bwTs_ok hs hr hV cs hk h2⟩
  | .any, c, hk, hv | .int _ _, c, hk, hv | .bool _, c, hk, hv | .str _, c, hk, hv | .fn _ _, c, hk, hv | .nilp, c, hk, hv | .fptr _ _ _, c, hk, hv | .nil, c, hk, hv | .nilI, c, hk, hv | .ifc, c, hk, hv | .sl _ _ _, c, hk, hv => by
    simp only [bwOk] at hk
    simp only [bwT]
    exact RV_bw hs _ (by simp) hk hv
theorem bwTs_ok (hs : Lends e e' V) (hr : RH e (look h) Lf) (hV : ∀ nm, look h nm ≠ none → ¬ F nm → ∀ b ∈ Lf nm, V b) : ∀ (l : List AV) {cs : List Value}, bwOks h F l → RVs e l cs [] → RVs e' (bwTs h l) cs []
  | [], cs, _, hv => by simpa only [RVs, bwTs] using hv
  | v :: l, cs, hk, hv => by
    simp only [bwOks, bwTs, RVs] at hk hv ⊢
    obtain ⟨c, cs', L1, L2, h1, h2, h3, h4⟩ := hv
    have hL1 : L1 = [] := (nil_of_append h4).1
    have hL2 : L2 = [] := (nil_of_append h4).2
    subst hL1 hL2
    exact ⟨c, cs', [], [], h1, bwT_ok hs hr hV v hk.1 h2, bwTs_ok hs hr hV l hk.2 h3, rfl⟩
end

mutual
theorem renV_ok {A : Nat → Prop} {f : Nat → Nat} (hs : Sees e e') (hφ : ∀ n, A n → e'.φ (f n) = e.φ n) : ∀ (v : AV) {c : Value} {L : List Nat}, (∀ b ∈ L, e'.w.heap[b]? = e.w.heap[b]?) → okV A v → RV e v c L → RV e' (renV f v) c L
  | .ptr nm i o, c, L, hk, ha, h => by
    simp only [okV, renV, RV] at ha h ⊢
    rw [hφ nm ha]
    exact h
  | .ns nm o l, c, L, hk, ha, h => by
    simp only [okV, renV, RV] at ha h ⊢
    rw [hφ nm ha]
    exact h
  | .agg cs, c, L, hk, ha, h => by
    simp only [okV, renV, RV] at ha h ⊢
    obtain ⟨vs, h1, h2⟩ := h
    exact ⟨vs, h1, renL_ok hs hφ cs hk ha h2⟩
  | .tup cs, c, L, hk, ha, h => by
    simp only [okV, renV, RV] at ha h ⊢
    obtain ⟨vs, h1, h2⟩ := h
    exact ⟨vs, h1, renL_ok hs hφ cs hk ha h2⟩
  | .any, c, L, hk, ha, h => by simpa only [renV, RV] using h
  | .int _ _, c, L, hk, ha, h | .bool _, c, L, hk, ha, h | .str _, c, L, hk, ha, h | .fn _ _, c, L, hk, ha, h | .nilp, c, L, hk, ha, h | .fptr _ _ _, c, L, hk, ha, h | .nil, c, L, hk, ha, h | .nilI, c, L, hk, ha, h
  | .ifc, c, L, hk, ha, h | .sl _ _ _, c, L, hk, ha, h => by
    simp only [okV] at ha
    simp only [renV]
    exact RV_nb hs _ hk ha h
theorem renL_ok {A : Nat → Prop} {f : Nat → Nat} (hs : Sees e e') (hφ : ∀ n, A n → e'.φ (f n) = e.φ n) : ∀ (l : List AV) {cs : List Value} {L : List Nat}, (∀ b ∈ L, e'.w.heap[b]? = e.w.heap[b]?) → okL A l → RVs e l cs L → RVs e' (renL f l) cs L
  | [], cs, L, _, _, h => by simpa only [RVs, renL] using h
  | v :: l, cs, L, hk, ha, h => by
    simp only [okL, renL, RVs] at ha h ⊢
    obtain ⟨c, cs', L1, L2, h1, h2, h3, h4⟩ := h
    subst h4
    exact ⟨c, cs', L1, L2, h1, renV_ok hs hφ v (fun b hb => hk b (by simp [hb])) ha.1 h2, renL_ok hs hφ l (fun b hb => hk b (by simp [hb])) ha.2 h3, rfl⟩
end

end

mutual
theorem renV_bnd {A B : Nat → Prop} {f : Nat → Nat} (hf : ∀ n, A n → B (f n)) : ∀ (v : AV), okV A v → bnd B (renV f v)
  | .ptr nm i o, h => hf nm h
  | .ns nm o l, h => hf nm h
  | .agg cs, h => by simp only [okV, renV] at h ⊢; exact renL_bnd hf cs h
  | .tup cs, h => by simp only [okV, renV] at h ⊢; exact renL_bnd hf cs h
  | .any, _ => trivial
  | .int _ _, h | .bool _, h | .str _, h | .fn _ _, h | .nilp, h | .fptr _ _ _, h | .nil, h | .nilI, h | .ifc, h | .sl _ _ _, h => by
    simp only [okV] at h
    simp only [renV]
    exact nb_bnd _ h
theorem renL_bnd {A B : Nat → Prop} {f : Nat → Nat} (hf : ∀ n, A n → B (f n)) : ∀ (l : List AV), okL A l → bnds B (renL f l)
  | [], _ => trivial
  | v :: l, h => ⟨renV_bnd hf v h.1, renL_bnd hf l h.2⟩
end

/-- Rows that may be handed over by name: their names are known. -/
def okR (A : Nat → Prop) : List (List AV) → Prop
  | [] => True
  | r :: rs => okL A r ∧ okR A rs
def renR (f : Nat → Nat) : List (List AV) → List (List AV)
  | [] => []
  | r :: rs => renL f r :: renR f rs
def renO (f : Nat → Nat) : Option Row → Option Row
  | none => none
  | some r => some (r.1, renR f r.2)

theorem renO_none {f : Nat → Nat} {o : Option Row} : renO f o = none ↔ o = none := by cases o <;> simp [renO]

theorem renL_length (f : Nat → Nat) : ∀ (l : List AV), (renL f l).length = l.length
  | [] => rfl
  | c :: cs => by simp [renL, renL_length f cs]
theorem renR_length (f : Nat → Nat) : ∀ (l : List (List AV)), (renR f l).length = l.length
  | [] => rfl
  | c :: cs => by simp [renR, renR_length f cs]
theorem renL_cell (f : Nat → Nat) : ∀ (l : List AV), (renL f l).all cellOk = l.all cellOk
  | [] => rfl
  | c :: cs => by
    simp only [renL, List.all_cons, renL_cell f cs]
    congr 1
    cases c <;> rfl

mutual
theorem renV_nb (f : Nat → Nat) : ∀ (v : AV), nb v → renV f v = v
  | .ptr .., h => by simp [nb] at h
  | .ns .., h => by simp [nb] at h
  | .agg cs, h => by simp only [renV, renL_nb f cs (by simpa [nb] using h)]
  | .tup cs, h => by simp only [renV, renL_nb f cs (by simpa [nb] using h)]
  | .any, _ | .int _ _, _ | .bool _, _ | .str _, _ | .fn _ _, _ | .nilp, _ | .fptr _ _ _, _ | .nil, _ | .nilI, _ | .ifc, _ | .sl _ _ _, _ => by simp only [renV]
theorem renL_nb (f : Nat → Nat) : ∀ (l : List AV), nbs l → renL f l = l
  | [], _ => rfl
  | c :: cs, h => by simp only [renL, renV_nb f c h.1, renL_nb f cs h.2]
end
theorem renR_nb (f : Nat → Nat) : ∀ (l : List (List AV)), nbr l → renR f l = l
  | [], _ => rfl
  | c :: cs, h => by simp only [renR, renL_nb f c h.1, renR_nb f cs h.2]

mutual
theorem okV_nb {A : Nat → Prop} : ∀ (v : AV), nb v → okV A v
  | .ptr .., h => by simp [nb] at h
  | .ns .., h => by simp [nb] at h
  | .agg cs, h => okL_nb cs (by simpa [nb] using h)
  | .tup cs, h => okL_nb cs (by simpa [nb] using h)
  | .any, _ => trivial
  | .int _ _, h | .bool _, h | .str _, h | .fn _ _, h | .nilp, h | .fptr _ _ _, h | .nil, h | .nilI, h | .ifc, h | .sl _ _ _, h => by simpa only [okV] using h
theorem okL_nb {A : Nat → Prop} : ∀ (l : List AV), nbs l → okL A l
  | [], _ => trivial
  | c :: cs, h => ⟨okV_nb c h.1, okL_nb cs h.2⟩
end
theorem okR_nb {A : Nat → Prop} : ∀ (l : List (List AV)), nbr l → okR A l
  | [], _ => trivial
  | c :: cs, h => ⟨okL_nb c h.1, okR_nb cs h.2⟩

theorem okR_set {A : Nat → Prop} : ∀ (l : List (List AV)) (i : Nat) (r : List AV), okR A l → okL A r → okR A (l.set i r)
  | [], i, r, h, hr => h
  | c :: cs, 0, r, h, hr => ⟨hr, h.2⟩
  | c :: cs, i + 1, r, h, hr => ⟨h.1, okR_set cs i r h.2 hr⟩
theorem renR_set (f : Nat → Nat) : ∀ (l : List (List AV)) (i : Nat) (r : List AV), renR f (l.set i r) = (renR f l).set i (renL f r)
  | [], i, r => rfl
  | c :: cs, 0, r => rfl
  | c :: cs, i + 1, r => by simp only [List.set_cons_succ, renR, renR_set f cs i r]

theorem renR_bnd {A B : Nat → Prop} {f : Nat → Nat} (hf : ∀ n, A n → B (f n)) : ∀ (l : List (List AV)), okR A l → bndr B (renR f l)
  | [], _ => trivial
  | v :: l, h => ⟨renL_bnd hf v h.1, renR_bnd hf l h.2⟩

theorem RRows_ren {e e' : Env} {A : Nat → Prop} {f : Nat → Nat} (hs : Sees e e') (hφ : ∀ n, A n → e'.φ (f n) = e.φ n) : ∀ (rs : List (List AV)) {W W' : World} {b o sz : Nat} {L : List Nat}, (∀ b ∈ L, e'.w.heap[b]? = e.w.heap[b]?) → okR A rs →
    (∀ o', W'.cell? ⟨b, o', none⟩ = W.cell? ⟨b, o', none⟩) → RRows e W b o sz rs L → RRows e' W' b o sz (renR f rs) L
  | [], _, _, _, _, _, _, _, _, _, h => by simpa only [RRows, renR] using h
  | r :: rs, W, W', b, o, sz, L, k, hb, hW, h => by
    simp only [RRows, renR] at h ⊢
    obtain ⟨vs, L1, L2, h1, h2, h3, h4, h5, h6⟩ := h
    subst h6
    exact ⟨vs, L1, L2, by rw [renL_length, renL_cell]; exact h1, h2, fun j hj => by rw [hW]; exact h3 j hj, renL_ok hs hφ r (fun b hb => k b (by simp [hb])) hb.1 h4, RRows_ren hs hφ rs (fun b hb => k b (by simp [hb])) hb.2 hW h5, rfl⟩

mutual
theorem renV_inv {e e' : Env} {A : Nat → Prop} {f : Nat → Nat} (hs : Sees e e') (hφ : ∀ n, A n → e'.φ n = e.φ (f n)) : ∀ (v : AV) {c : Value} {L : List Nat}, (∀ b ∈ L, e'.w.heap[b]? = e.w.heap[b]?) → okV A v → RV e (renV f v) c L → RV e' v c L
  | .ptr nm i o, c, L, hk, ha, h => by
    simp only [okV, renV, RV] at ha h ⊢
    rw [hφ nm ha]
    exact h
  | .ns nm o l, c, L, hk, ha, h => by
    simp only [okV, renV, RV] at ha h ⊢
    rw [hφ nm ha]
    exact h
  | .agg cs, c, L, hk, ha, h => by
    simp only [okV, renV, RV] at ha h ⊢
    obtain ⟨vs, h1, h2⟩ := h
    exact ⟨vs, h1, renL_inv hs hφ cs hk ha h2⟩
  | .tup cs, c, L, hk, ha, h => by
    simp only [okV, renV, RV] at ha h ⊢
    obtain ⟨vs, h1, h2⟩ := h
    exact ⟨vs, h1, renL_inv hs hφ cs hk ha h2⟩
  | .any, c, L, hk, ha, h => by simpa only [renV, RV] using h
  | .int _ _, c, L, hk, ha, h | .bool _, c, L, hk, ha, h | .str _, c, L, hk, ha, h | .fn _ _, c, L, hk, ha, h | .nilp, c, L, hk, ha, h | .fptr _ _ _, c, L, hk, ha, h | .nil, c, L, hk, ha, h | .nilI, c, L, hk, ha, h
  | .ifc, c, L, hk, ha, h | .sl _ _ _, c, L, hk, ha, h => by
    simp only [okV] at ha
    simp only [renV] at h
    exact RV_nb hs _ hk ha h
theorem renL_inv {e e' : Env} {A : Nat → Prop} {f : Nat → Nat} (hs : Sees e e') (hφ : ∀ n, A n → e'.φ n = e.φ (f n)) : ∀ (l : List AV) {cs : List Value} {L : List Nat}, (∀ b ∈ L, e'.w.heap[b]? = e.w.heap[b]?) → okL A l → RVs e (renL f l) cs L → RVs e' l cs L
  | [], cs, L, _, _, h => by simpa only [RVs, renL] using h
  | v :: l, cs, L, hk, ha, h => by
    simp only [okL, renL, RVs] at ha h ⊢
    obtain ⟨c, cs', L1, L2, h1, h2, h3, h4⟩ := h
    subst h4
    exact ⟨c, cs', L1, L2, h1, renV_inv hs hφ v (fun b hb => hk b (by simp [hb])) ha.1 h2, renL_inv hs hφ l (fun b hb => hk b (by simp [hb])) ha.2 h3, rfl⟩
end
theorem RRows_inv {e e' : Env} {A : Nat → Prop} {f : Nat → Nat} (hs : Sees e e') (hφ : ∀ n, A n → e'.φ n = e.φ (f n)) : ∀ (rs : List (List AV)) {W W' : World} {b o sz : Nat} {L : List Nat}, (∀ b ∈ L, e'.w.heap[b]? = e.w.heap[b]?) → okR A rs →
    (∀ o', W'.cell? ⟨b, o', none⟩ = W.cell? ⟨b, o', none⟩) → RRows e W b o sz (renR f rs) L → RRows e' W' b o sz rs L
  | [], _, _, _, _, _, _, _, _, _, h => by simpa only [RRows, renR] using h
  | r :: rs, W, W', b, o, sz, L, k, hb, hW, h => by
    simp only [RRows, renR] at h ⊢
    obtain ⟨vs, L1, L2, h1, h2, h3, h4, h5, h6⟩ := h
    subst h6
    rw [renL_length, renL_cell] at h1
    exact ⟨vs, L1, L2, h1, h2, fun j hj => by rw [hW]; exact h3 j hj, renL_inv hs hφ r (fun b hb => k b (by simp [hb])) hb.1 h4, RRows_inv hs hφ rs (fun b hb => k b (by simp [hb])) hb.2 hW h5, rfl⟩

end Go.Sep

/- A call, whole: the caller goes on with what the contract tells. -/
namespace Go.Sep
set_option linter.unusedVariables false
set_option linter.unusedSimpArgs false

def ixm : List (Nat × Nat) → Nat → Nat
  | [], _ => 0
  | (a, b) :: σ, n => if n = b then a else ixm σ n

def hand (ix : Nat → Nat) (h : Heap) : List Bool → List AV → List AV
  | _, [] => []
  | true :: ps, v :: vs => renV ix v :: hand ix h ps vs
  | false :: ps, v :: vs => bwT h v :: hand ix h ps vs
  | [], v :: vs => bwT h v :: hand ix h [] vs

def handOk (h : Heap) (A F : Nat → Prop) : List Bool → List AV → Prop
  | _, [] => True
  | true :: ps, v :: vs => okV A v ∧ handOk h A F ps vs
  | false :: ps, v :: vs => bwOk h F v ∧ handOk h A F ps vs
  | [], v :: vs => bwOk h F v ∧ handOk h A F [] vs

theorem hand_ok {e e' : Env} {V : Nat → Prop} {h : Heap} {Lf : Nat → List Nat} {A F : Nat → Prop} {ix : Nat → Nat} (hs : Lends e e' V) (hse : Sees e e') (hw : e'.w = e.w) (hr : RH e (look h) Lf) (hV : ∀ nm, look h nm ≠ none → ¬ F nm → ∀ b ∈ Lf nm, V b) (hφ : ∀ n, A n → e'.φ (ix n) = e.φ n) :
    ∀ (ps : List Bool) (vs : List AV) {cs : List Value}, handOk h A F ps vs → RVs e vs cs [] → RVs e' (hand ix h ps vs) cs []
  | ps, [], cs, _, hv => by
    have : hand ix h ps [] = [] := by cases ps with
      | nil => rfl
      | cons p ps => cases p <;> rfl
    rw [this]
    simpa only [RVs] using hv
  | true :: ps, v :: vs, cs, hk, hv => by
    simp only [handOk, hand, RVs] at hk hv ⊢
    obtain ⟨c, cs', L1, L2, h1, h2, h3, h4⟩ := hv
    have hL1 : L1 = [] := (nil_of_append h4).1
    have hL2 : L2 = [] := (nil_of_append h4).2
    subst hL1 hL2
    exact ⟨c, cs', [], [], h1, renV_ok hse hφ v (by simp) hk.1 h2, hand_ok hs hse hw hr hV hφ ps vs hk.2 h3, rfl⟩
  | false :: ps, v :: vs, cs, hk, hv => by
    simp only [handOk, hand, RVs] at hk hv ⊢
    obtain ⟨c, cs', L1, L2, h1, h2, h3, h4⟩ := hv
    have hL1 : L1 = [] := (nil_of_append h4).1
    have hL2 : L2 = [] := (nil_of_append h4).2
    subst hL1 hL2
    exact ⟨c, cs', [], [], h1, bwT_ok hs hr hV v hk.1 h2, hand_ok hs hse hw hr hV hφ ps vs hk.2 h3, rfl⟩
  | [], v :: vs, cs, hk, hv => by
    simp only [handOk, hand, RVs] at hk hv ⊢
    obtain ⟨c, cs', L1, L2, h1, h2, h3, h4⟩ := hv
    have hL1 : L1 = [] := (nil_of_append h4).1
    have hL2 : L2 = [] := (nil_of_append h4).2
    subst hL1 hL2
    exact ⟨c, cs', [], [], h1, bwT_ok hs hr hV v hk.1 h2, hand_ok hs hse hw hr hV hφ [] vs hk.2 h3, rfl⟩

theorem RVs_args {e : Env} {ρ : Nat → AV} {a : Act} (ht : ∀ t, RV e (ρ t) (a.tmps.getD t undef) []) : ∀ (xs : List Operand) (ys : List Arg), chkAs e.num xs ys = true → RVs e (ys.map (Arg.ev ρ)) (xs.map a.eval) []
  | [], [], _ => by simp [RVs]
  | x :: xs, y :: ys, h => by
    simp only [chkAs, Bool.and_eq_true] at h
    simp only [List.map_cons, RVs]
    exact ⟨_, _, [], [], rfl, RV_arg ht h.1, RVs_args ht xs ys h.2, rfl⟩
  | [], _ :: _, h => by simp [chkAs] at h
  | _ :: _, [], h => by simp [chkAs] at h

theorem look_preH {fp : FP} (hnd : (fp.map (·.1)).Nodup) {x : Nat × Option Row × Option Row} (hx : x ∈ fp) : look (preH fp) x.1 = x.2.1 := by
  induction fp with
  | nil => simp at hx
  | cons y fp ih =>
    obtain ⟨n, a, b⟩ := y
    simp only [List.map_cons, List.nodup_cons] at hnd
    have hnone : look (preH fp) n = none := by
      cases hh : look (preH fp) n with
      | none => rfl
      | some r => exact absurd (preH_post (by simp [hh])) hnd.1
    rcases List.mem_cons.1 hx with rfl | hx'
    · cases a with
      | none => simp only [preH]; exact hnone
      | some r => simp [preH, look]
    · have hne : x.1 ≠ n := fun he => hnd.1 (List.mem_map.2 ⟨x, hx', he⟩)
      cases a with
      | none => simp only [preH]; exact ih hnd.2 hx'
      | some r => simp only [preH, look]; rw [if_neg hne]; exact ih hnd.2 hx'

theorem look_postH {fp : FP} (hnd : (fp.map (·.1)).Nodup) {x : Nat × Option Row × Option Row} (hx : x ∈ fp) : look (postH fp) x.1 = x.2.2 := by
  induction fp with
  | nil => simp at hx
  | cons y fp ih =>
    obtain ⟨n, a, b⟩ := y
    simp only [List.map_cons, List.nodup_cons] at hnd
    have hnone : look (postH fp) n = none := by
      cases hh : look (postH fp) n with
      | none => rfl
      | some r => exact absurd (postH_mem (by simp [hh])) hnd.1
    rcases List.mem_cons.1 hx with rfl | hx'
    · cases b with
      | none => simp only [postH]; exact hnone
      | some r => simp [postH, look]
    · have hne : x.1 ≠ n := fun he => hnd.1 (List.mem_map.2 ⟨x, hx', he⟩)
      cases b with
      | none => simp only [postH]; exact ih hnd.2 hx'
      | some r => simp only [postH, look]; rw [if_neg hne]; exact ih hnd.2 hx'

theorem upH_nodup : ∀ {fp : FP} {H : Nat → Option Row} {x : Nat × Option Row × Option Row}, (fp.map (·.1)).Nodup → x ∈ fp → upH H fp x.1 = x.2.2
  | [], H, x, _, hx => by simp at hx
  | (n, a, b) :: fp, H, x, hnd, hx => by
    simp only [List.map_cons, List.nodup_cons] at hnd
    simp only [upH]
    rcases List.mem_cons.1 hx with rfl | hx
    · rw [upH_none hnd.1, if_pos rfl]
    · exact upH_nodup hnd.2 hx

/-- Who has this name. -/
def inv (f : Nat → Nat) (fp : FP) (n : Nat) : Option Nat := (fp.find? (fun x => f x.1 == n)).map (·.1)

theorem inv_some {f : Nat → Nat} {fp : FP} (hnd : (fp.map (fun x => f x.1)).Nodup) {x : Nat × Option Row × Option Row} (hx : x ∈ fp) : inv f fp (f x.1) = some x.1 := by
  induction fp with
  | nil => simp at hx
  | cons y fp ih =>
    simp only [List.map_cons, List.nodup_cons] at hnd
    unfold inv
    rcases List.mem_cons.1 hx with rfl | hx
    · simp
    · have hne : f y.1 ≠ f x.1 := fun he => hnd.1 (List.mem_map.2 ⟨x, hx, he.symm⟩)
      rw [List.find?_cons_of_neg (by simpa using hne)]
      exact ih hnd.2 hx

theorem inv_none {f : Nat → Nat} {fp : FP} {n : Nat} (h : n ∉ fp.map (fun x => f x.1)) : inv f fp n = none := by
  unfold inv
  cases hh : fp.find? (fun x => f x.1 == n) with
  | none => rfl
  | some x =>
    have h1 := List.find?_some hh
    have h2 := List.mem_of_find?_eq_some hh
    simp only [beq_iff_eq] at h1
    exact absurd (List.mem_map.2 ⟨x, h2, h1⟩) h

section
variable {P : Program} {num : Nat → Nat}

/-- The run of a call's operation: the callee is entered. -/
theorem run_enter {o : Oper} {a : Act} {w : World} {g : Nat} {args : Array Operand} {ats : Array TypeId} (hop : o.op = .call { callee := .value (.func g), args, argTypes := ats }) (hb : Body P g) :
    (execOp a.eval o).run P w = .ok (.enter g (args.map a.eval)) w := by
  obtain ⟨fn, hf, hname, hbd⟩ := hb
  have h1 : ¬ fn.name = "runtime.NumGoroutine" := by simpa using hname
  have h2 : ¬ fn.body = none := by cases hx : fn.body <;> simp_all
  unfold execOp
  simp [hop, resolve, Deferred.ofValue, invoke, callFunc, hf, h1, h2, Act.eval]

theorem CallR.to {m : MOp} {t : List (Nat × AV)} {h : Heap} {nx nx' : Nat} {v : AV} {fp : FP} {dst : Option Nat} (hc : CallR P num m t h nx v fp nx') : CallTo P num m dst (.mk t h nx) (.mk (putD t dst v) (app1 h fp) nx') := by
  intro B o a w K Q hnum hchk hdst hdok hs k
  obtain ⟨hsz, hdef, hb, hbt, φ, Lf, hl⟩ := hs
  obtain ⟨pb, hr⟩ := hc hb hbt
  subst hdst
  refine hr B o a w φ Lf K Q hnum hchk hl ?_
  intro e3 Lf3 v' TT g1
  obtain ⟨k1, k2, k3, Lf4, k4⟩ := hl.turn (d := o.dst) hsz hdok hb hbt pb TT g1
  exact k _ _ ⟨by rw [put_size]; exact hsz, by rw [put_defers]; exact hdef, k2, k3, e3.φ, Lf4, k4⟩

/-- This operation calls that function with these arguments. -/
def CallsIt (P : Program) (num : Nat → Nat) (m : MOp) (f : Nat) (xs : List Arg) (t : List (Nat × AV)) : Prop :=
  ∀ (e : Env) (o : Oper) (a : Act) (w : World), e.num = num → chkOp P num m o.op = true → (∀ n, RV e (lookT t n) (a.tmps.getD n undef) []) →
    ∃ args : Array Operand, chkAs num args.toList xs = true ∧ (execOp a.eval o).run P w = .ok (.enter (num f) (args.map a.eval)) w

theorem calls_call {f : Nat} {ps : List Bool} {xs : List Arg} {t : List (Nat × AV)} (hb : Body P (num f)) : CallsIt P num (.call f ps xs) f xs t := by
  intro e o a w hn hchk htm
  simp only [chkOp] at hchk
  split at hchk
  · rename_i g args ats hop
    simp only [Bool.and_eq_true, beq_iff_eq] at hchk
    obtain ⟨rfl, hchk⟩ := hchk
    exact ⟨args, hchk, run_enter hop hb⟩
  · simp at hchk

theorem calls_calv {f : Nat} {y : Arg} {xs : List Arg} {t : List (Nat × AV)} (hb : Body P (num f)) (hy : y.ev (lookT t) = .fn f []) : CallsIt P num (.calv y xs) f xs t := by
  intro e o a w hn hchk htm
  subst hn
  simp only [chkOp] at hchk
  split at hchk
  · rename_i x args ats hop
    simp only [Bool.and_eq_true] at hchk
    obtain ⟨h1, hchk⟩ := hchk
    have g := RV_arg (e := e) (ρ := lookT t) (a := a) htm h1
    rw [hy] at g
    simp only [RV, RVs] at g
    obtain ⟨vs, h2, ⟨rfl, _⟩, _⟩ := g
    refine ⟨args, hchk, ?_⟩
    obtain ⟨fn, hf, hname, hbd⟩ := hb
    have k1 : ¬ fn.name = "runtime.NumGoroutine" := by simpa using hname
    have k2 : ¬ fn.body = none := by cases hx : fn.body <;> simp_all
    unfold execOp
    simp [hop, resolve, Deferred.ofValue, invoke, callFunc, hf, k1, k2, h2]
  · simp at hchk

theorem call_okN {m : MOp} {f nx n1 : Nat} {ps : List Bool} {xs : List Arg} {t : List (Nat × AV)} {h : Heap} {fp : FP} {res : AV} {vargs : List AV} (σ : List (Nat × Nat)) (hc : CallOk P num f vargs fp res)
    (hv : nilL (hand (ixm σ) h ps (xs.map (Arg.ev (lookT t)))) vargs)
    (hvo : handOk h (fun n => ∃ x ∈ fp, x.2.1 ≠ none ∧ n = rnm σ x.1 ∧ ixm σ n = x.1) (fun n => ∃ x ∈ fp, n = rnm σ x.1) ps (xs.map (Arg.ev (lookT t))))
    (hnd : (fp.map (fun x => rnm σ x.1)).Nodup) (hpre : ∀ x ∈ fp, look h (rnm σ x.1) = renO (rnm σ) x.2.1 ∧ (x.2.1 = none → nx ≤ rnm σ x.1) ∧ rnm σ x.1 < n1)
    (hnb : ∀ x ∈ fp, (∀ r, x.2.1 = some r → okR (fun k => ∃ y ∈ fp, y.1 = k ∧ y.2.1 ≠ none) r.2) ∧ (∀ r, x.2.2 = some r → okR (fun k => ∃ y ∈ fp, y.1 = k ∧ y.2.2 ≠ none) r.2)) (hres : okV (fun k => ∃ x ∈ fp, x.1 = k ∧ x.2.2 ≠ none) res) (hn1 : nx ≤ n1) (hm : CallsIt P num m f xs t) :
    CallR P num m t h nx (openV n1 (renV (rnm σ) res)).1 (fp.map (fun x => (rnm σ x.1, renO (rnm σ) x.2.1, renO (rnm σ) x.2.2)) ++ fresh (openV n1 (renV (rnm σ) res)).2.1) (openV n1 (renV (rnm σ) res)).2.2 := by
  intro hb hbt
  let rn := rnm σ
  have hnd0 : (fp.map (·.1)).Nodup := by
    have : fp.map (fun x => rnm σ x.1) = (fp.map (·.1)).map (rnm σ) := by simp
    rw [this] at hnd
    exact List.Pairwise.of_map (rnm σ) (fun a b h he => h (by rw [he])) hnd
  have rinj : ∀ x ∈ fp, ∀ y ∈ fp, rnm σ x.1 = rnm σ y.1 → x.1 = y.1 := by
    intro x hx y hy he
    have h1 := inv_some hnd hx
    have h2 := inv_some hnd hy
    rw [he, h2] at h1
    exact (Option.some.inj h1).symm
  have preS : ∀ k, look (preH fp) k ≠ none → ∃ x ∈ fp, x.1 = k ∧ x.2.1 = look (preH fp) k := by
    intro k hk
    obtain ⟨x, hx, rfl⟩ := List.mem_map.1 (preH_post hk)
    exact ⟨x, hx, rfl, (look_preH hnd0 hx).symm⟩
  have preR : ∀ k, look (preH fp) k ≠ none → look h (rnm σ k) = renO (rnm σ) (look (preH fp) k) := by
    intro k hk
    obtain ⟨x, hx, rfl, h1⟩ := preS k hk
    rw [(hpre x hx).1, h1]
  have preN : ∀ k, look (preH fp) k ≠ none → look h (rnm σ k) ≠ none := by
    intro k hk
    rw [preR k hk]
    exact fun h => hk (renO_none.1 h)
  have hbres : bnd (· < n1) (renV (rnm σ) res) := renV_bnd (A := fun k => ∃ x ∈ fp, x.1 = k ∧ x.2.2 ≠ none) (fun n ⟨x, hx, he, _⟩ => by rw [← he]; exact (hpre x hx).2.2) res hres
  have hle := openV_le (renV (rnm σ) res) n1
  have opnone : ∀ y ∈ (openV n1 (renV (rnm σ) res)).2.1, look h y.1 = none := fun y hy => hb.new (Nat.le_trans hn1 (hle.2 y hy).1)
  have hob := openV_bnd (renV (rnm σ) res) n1 hbres
  have pb : PB h nx (openV n1 (renV (rnm σ) res)).1 (fp.map (fun x => (rnm σ x.1, renO (rnm σ) x.2.1, renO (rnm σ) x.2.2)) ++ fresh (openV n1 (renV (rnm σ) res)).2.1) (openV n1 (renV (rnm σ) res)).2.2 := {
    le := Nat.le_trans hn1 hle.1
    v := hob.1
    pre := fun x hx => by
      rcases List.mem_append.1 hx with hx | hx
      · obtain ⟨y, hy, rfl⟩ := List.mem_map.1 hx
        exact (hpre y hy).1
      · obtain ⟨y, hy, rfl⟩ := List.mem_map.1 hx
        exact opnone y hy
    new := fun x hx hn => by
      rcases List.mem_append.1 hx with hx | hx
      · obtain ⟨y, hy, rfl⟩ := List.mem_map.1 hx
        exact (hpre y hy).2.1 (renO_none.1 hn)
      · obtain ⟨y, hy, rfl⟩ := List.mem_map.1 hx
        exact Nat.le_trans hn1 (hle.2 y hy).1
    lt := fun x hx => by
      rcases List.mem_append.1 hx with hx | hx
      · obtain ⟨y, hy, rfl⟩ := List.mem_map.1 hx
        exact Nat.lt_of_lt_of_le (hpre y hy).2.2 hle.1
      · obtain ⟨y, hy, rfl⟩ := List.mem_map.1 hx
        exact (hle.2 y hy).2
    row := fun x hx row hr => by
      rcases List.mem_append.1 hx with hx | hx
      · obtain ⟨y, hy, rfl⟩ := List.mem_map.1 hx
        cases hr2 : y.2.2 with
        | none => simp [hr2, renO] at hr
        | some r0 =>
          simp only [hr2, renO, Option.some.injEq] at hr
          subst hr
          exact renR_bnd (fun n ⟨z, hz, he, _⟩ => by rw [← he]; exact Nat.lt_of_lt_of_le (hpre z hz).2.2 hle.1) _ ((hnb y hy).2 r0 hr2)
      · obtain ⟨y, hy, rfl⟩ := List.mem_map.1 hx
        simp only [Option.some.injEq] at hr
        subst hr
        exact hob.2 y hy }
  refine ⟨pb, ?_⟩
  intro B o a w φ Lf K Q hnum hchk hl k
  subst hnum
  -- the callee's memory
  let V : Nat → Prop := fun b => ∃ nm, look h nm ≠ none ∧ (¬ ∃ x ∈ fp, nm = rnm σ x.1) ∧ b ∈ Lf nm
  classical
  let ec : Env := { num := B.num, w := w, w0 := w, φ := fun n => if look (preH fp) n ≠ none then φ (rnm σ n) else .dead, Fr := B.Fr, Bo := fun b => B.Bo b ∨ V b }
  let Lc : Nat → List Nat := fun n => Lf (rnm σ n)
  let e : Env := B.env w φ
  have hfz : ∀ b, B.Fr b ∨ B.Bo b → ∀ o, w.cell? ⟨b, o, none⟩ = B.w0.cell? ⟨b, o, none⟩ := fun b hb' o => hl.ok.frozen_cell hb' o
  have hlend : Lends e ec V := { num := rfl, w0 := rfl, fr := fun b hb' => hb', bo := fun b hb' => hb'.elim .inl (fun h => h.elim (fun h1 => .inr (.inl h1)) (fun h1 => .inr (.inr h1))), cells := hfz }
  have hsee : Sees e ec := { num := rfl, fr := fun b hb' => hb', cells := fun b hb' o => hfz b (.inl hb') o }
  have φc : ∀ n, look (preH fp) n ≠ none → ec.φ n = φ (rnm σ n) := fun n hn => by
    show (if look (preH fp) n ≠ none then φ (rnm σ n) else Spot.dead) = φ (rnm σ n)
    rw [if_pos hn]
  have hVl : ∀ b, V b → b < w.heap.size ∧ ∀ n, look (preH fp) n ≠ none → b ∉ Lc n := by
    rintro b ⟨nm, h1, h2, h3⟩
    refine ⟨(hl.ok.rh.blk nm h1 b h3).1, fun n hn hbn => ?_⟩
    obtain ⟨x, hx, rfl, h4⟩ := preS n hn
    exact hl.ok.rh.dis nm (rnm σ x.1) h1 (preN _ hn) (fun he => h2 ⟨x, hx, he⟩) b h3 hbn
  have hokc : Ok ec (blks Lc (preH fp)) (look (preH fp)) Lc := {
    size0 := Nat.le_refl _
    io0 := SameIo.refl _
    fr := fun b hb' => by
      rcases hb' with h1 | h1 | h1
      · have h2 := hl.ok.fr b (.inl h1)
        refine ⟨Nat.lt_of_lt_of_le h2.1 hl.ok.size0, fun hm => ?_⟩
        obtain ⟨n, h3, h4⟩ := mem_blks hm
        exact (hl.ok.rh.blk (rnm σ n) (preN n h3) b h4).2.1 h1
      · have h2 := hl.ok.fr b (.inr h1)
        refine ⟨Nat.lt_of_lt_of_le h2.1 hl.ok.size0, fun hm => ?_⟩
        obtain ⟨n, h3, h4⟩ := mem_blks hm
        exact (hl.ok.rh.blk (rnm σ n) (preN n h3) b h4).2.2 h1
      · refine ⟨(hVl b h1).1, fun hm => ?_⟩
        obtain ⟨n, h3, h4⟩ := mem_blks hm
        exact (hVl b h1).2 n h3 h4
    keep0 := fun b _ _ => rfl
    own0 := fun n hn b hb' => .inl (blks_mem hn hb')
    rh := {
      row := fun n row hr => by
        have hn : look (preH fp) n ≠ none := by simp [hr]
        obtain ⟨x, hx, rfl, h4⟩ := preS n hn
        have h5 := hl.ok.rh.row (rnm σ x.1) (row.1, renR (rnm σ) row.2) (by rw [preR _ hn, hr]; rfl)
        have h6 := (hnb x hx).1 row (by rw [h4, hr])
        unfold RowAt RowSp at h5 ⊢
        rw [φc _ hn]
        have h5' : (match φ (rnm σ x.1) with | .dead => False | .nilp => renR (rnm σ) row.2 = [] ∧ Lf (rnm σ x.1) = [] | .at p => p.sz = row.1 ∧ OwnBlk w p (renR (rnm σ) row.2).length ∧ ∃ Lr, RRows e w p.block p.off p.sz (renR (rnm σ) row.2) Lr ∧ Lf (rnm σ x.1) = p.block :: Lr) := h5
        cases hq : φ (rnm σ x.1) with
        | dead => rw [hq] at h5'; exact h5'
        | nilp =>
          rw [hq] at h5'
          refine ⟨?_, h5'.2⟩
          have := renR_length (rnm σ) row.2
          rw [h5'.1] at this
          exact List.eq_nil_of_length_eq_zero this.symm
        | «at» p =>
          rw [hq] at h5'
          obtain ⟨g1, g2, Lr, g3, g4⟩ := h5'
          rw [renR_length] at g2
          exact ⟨g1, g2, Lr, RRows_inv (f := rnm σ) hsee (fun n ⟨y, hy, he, hyn⟩ => by rw [← he]; exact φc _ (by rw [look_preH hnd0 hy]; exact hyn)) row.2 (fun b _ => rfl) h6 (fun _ => rfl) g3, g4⟩
      nodup := fun n hn => hl.ok.rh.nodup _ (preN n hn)
      blk := fun n hn b hb' => by
        have h1 := hl.ok.rh.blk (rnm σ n) (preN n hn) b hb'
        refine ⟨h1.1, h1.2.1, fun hbo => ?_⟩
        rcases hbo with h2 | h2
        · exact h1.2.2 h2
        · exact (hVl b h2).2 n hn hb'
      dis := fun n m hn hm hne b hb' => by
        refine hl.ok.rh.dis _ _ (preN n hn) (preN m hm) (fun he => hne ?_) b hb'
        obtain ⟨x, hx, rfl, _⟩ := preS n hn
        obtain ⟨y, hy, rfl, _⟩ := preS m hm
        exact rinj x hx y hy he
      dead := fun n hn => by
        show (if look (preH fp) n ≠ none then φ (rnm σ n) else Spot.dead) = Spot.dead
        rw [if_neg (by simp [hn])] } }
  -- the call
  obtain ⟨args, hchk, hrun⟩ := hm e o a w rfl hchk hl.tm
  · have hargs := RVs_args (e := e) (ρ := lookT t) (a := a) hl.tm args.toList xs hchk
    have hargs' : RVs ec vargs (args.toList.map a.eval) [] := by
      refine nilL_ok hv (hand_ok hlend hsee rfl hl.ok.rh (fun nm h1 h2 b h3 => ⟨nm, h1, h2, h3⟩) ?_ ps _ hvo hargs)
      rintro n ⟨x, hx, h1, rfl, h3⟩
      rw [h3]
      exact φc _ (by rw [look_preH hnd0 hx]; exact h1)
    unfold Oper.wp
    rw [hrun, Oper.upon_enter]
    have hcs : args.map a.eval = (args.toList.map a.eval).toArray := by rw [← Array.toList_map, Array.toArray_toList]
    rw [hcs]
    refine Calls.mono (hc.2 ec Lc _ rfl rfl hokc hargs') ?_
    intro en w' hen
    cases en with
    | panicked ch => exact hen.elim
    | outgrown => exact hen.elim
    | returned v =>
      obtain ⟨e2, Lf2, L, rfl, T, hrv, hLn, hLb, hLd⟩ := hen
      let res' := renV (rnm σ) res
      let opn := (openV n1 res').2.1
      let cfp : FP := fp.map (fun x => (rnm σ x.1, renO (rnm σ) x.2.1, renO (rnm σ) x.2.2)) ++ fresh opn
      -- the names that come out of the call
      let φ2 : Nat → Spot := fun n => match inv (rnm σ) fp n with | some k => e2.φ k | none => φ n
      have φ2in : ∀ x ∈ fp, φ2 (rnm σ x.1) = e2.φ x.1 := fun x hx => by
        show (match inv (rnm σ) fp (rnm σ x.1) with | some k => e2.φ k | none => φ (rnm σ x.1)) = e2.φ x.1
        rw [inv_some hnd hx]
      have φ2out : ∀ n, n ∉ fp.map (fun x => rnm σ x.1) → φ2 n = φ n := fun n hn => by
        show (match inv (rnm σ) fp n with | some k => e2.φ k | none => φ n) = φ n
        rw [inv_none hn]
      let e2' : Env := B.env e2.w φ2
      have hsee2 : ∀ ψ : Nat → Spot, Sees e2 (B.env e2.w ψ) := fun ψ => { num := T.num.symm, fr := fun b hb' => (by rw [T.Fr] at hb'; exact hb'), cells := fun b hb' o => (by
        rw [T.Fr] at hb'
        rw [T.w0]
        exact (hfz b (.inl hb') o).symm) }
      have hrv2 : RV e2' res' v L := by
        refine renV_ok (hsee2 φ2) (A := fun k => ∃ x ∈ fp, x.1 = k ∧ x.2.2 ≠ none) ?_ res (fun b _ => rfl) hres hrv
        rintro n ⟨x, hx, rfl, _⟩
        exact φ2in x hx
      have hbres : bnd (· < n1) res' := renV_bnd (A := fun k => ∃ x ∈ fp, x.1 = k ∧ x.2.2 ≠ none) (fun n ⟨x, hx, he, _⟩ => by rw [← he]; exact (hpre x hx).2.2) res hres
      obtain ⟨S, s1, s2, s3⟩ := openV_ok (A := (· < n1)) res' n1 hbres hrv2
      have hle := openV_le res' n1
      have hSnd : (S.map (·.1)).Nodup := by rw [s1]; exact openV_nodup res' n1
      have Sname : ∀ x ∈ S, n1 ≤ x.1 := fun x hx => by
        have hm : x.1 ∈ S.map (·.1) := List.mem_map.2 ⟨x, hx, rfl⟩
        rw [s1] at hm
        obtain ⟨z, hz, hzx⟩ := List.mem_map.1 hm
        rw [← hzx]
        exact (hle.2 z hz).1
      have Sout : ∀ n, n < n1 → n ∉ S.map (·.1) := fun n hn hm => by
        obtain ⟨x, hx, rfl⟩ := List.mem_map.1 hm
        have := Sname x hx
        omega
      let e3 : Env := B.env e2.w (spotIn S φ2)
      have φ3in : ∀ x ∈ S, e3.φ x.1 = x.2.1 := fun x hx => by
        show spotIn S φ2 x.1 = x.2.1
        unfold spotIn
        rw [find_mem hSnd hx]
      have φ3out : ∀ n, n ∉ S.map (·.1) → e3.φ n = φ2 n := fun n hn => by
        show spotIn S φ2 n = φ2 n
        unfold spotIn
        rw [find_none hn]
      have hkeep : Keeps e2' e3 (· < n1) L := { num := rfl, fr := fun m b hb' => by cases m <;> exact hb', cells := fun b _ o => rfl, φ := fun n hn => .inl (φ3out n (Sout n hn)), own := fun b _ => rfl }
      obtain ⟨g1, g2⟩ := s3 e3 φ3in hkeep
      let Lf3 : Nat → List Nat := blksIn S (fun n => match inv (rnm σ) fp n with | some k => Lf2 k | none => Lf n)
      have L3in : ∀ x ∈ S, Lf3 x.1 = x.2.2 := fun x hx => by
        show blksIn S _ x.1 = x.2.2
        unfold blksIn
        rw [find_mem hSnd hx]
      have L3fp : ∀ x ∈ fp, Lf3 (rnm σ x.1) = Lf2 x.1 := fun x hx => by
        show blksIn S _ (rnm σ x.1) = Lf2 x.1
        unfold blksIn
        rw [find_none (Sout _ (hpre x hx).2.2)]
        simp only [inv_some hnd hx]
      have φ3fp : ∀ x ∈ fp, e3.φ (rnm σ x.1) = e2.φ x.1 := fun x hx => by rw [φ3out _ (Sout _ (hpre x hx).2.2), φ2in x hx]
      have cnd : (cfp.map (·.1)).Nodup := by
        show ((fp.map (fun x => (rnm σ x.1, renO (rnm σ) x.2.1, renO (rnm σ) x.2.2)) ++ fresh opn).map (·.1)).Nodup
        rw [List.map_append]
        refine List.nodup_append.2 ⟨by simpa [Function.comp_def] using hnd, by simpa [fresh, Function.comp_def] using openV_nodup res' n1, ?_⟩
        intro x hx y hy hxy
        subst hxy
        simp only [List.map_map, List.mem_map, Function.comp] at hx
        obtain ⟨z, hz, rfl⟩ := hx
        simp only [fresh, List.map_map, List.mem_map, Function.comp] at hy
        obtain ⟨u, hu, hu2⟩ := hy
        have h1 := (hle.2 u hu).1
        have h2 := (hpre z hz).2.2
        omega
      have memc : ∀ n, n ∈ cfp.map (·.1) ↔ (∃ x ∈ fp, n = rnm σ x.1) ∨ ∃ y ∈ opn, n = y.1 := by
        intro n
        show n ∈ (fp.map (fun x => (rnm σ x.1, renO (rnm σ) x.2.1, renO (rnm σ) x.2.2)) ++ fresh opn).map (·.1) ↔ _
        simp only [List.map_append, List.mem_append, List.map_map, fresh, List.mem_map, Function.comp]
        constructor
        · rintro (⟨x, hx, rfl⟩ | ⟨x, hx, rfl⟩)
          · exact .inl ⟨x, hx, rfl⟩
          · exact .inr ⟨x, hx, rfl⟩
        · rintro (⟨x, hx, rfl⟩ | ⟨x, hx, rfl⟩)
          · exact .inl ⟨x, hx, rfl⟩
          · exact .inr ⟨x, hx, rfl⟩
      have upfp : ∀ x ∈ fp, upH (look h) cfp (rnm σ x.1) = renO (rnm σ) x.2.2 := fun x hx =>
        upH_nodup (x := (rnm σ x.1, renO (rnm σ) x.2.1, renO (rnm σ) x.2.2)) cnd (List.mem_append_left _ (List.mem_map.2 ⟨x, hx, rfl⟩))
      have upop : ∀ y ∈ opn, upH (look h) cfp y.1 = some y.2 := fun y hy =>
        upH_nodup (x := (y.1, none, some y.2)) cnd (List.mem_append_right _ (List.mem_map.2 ⟨y, hy, rfl⟩))
      have opnone : ∀ y ∈ opn, look h y.1 = none := fun y hy => hb.new (Nat.le_trans hn1 (hle.2 y hy).1)
      have opS : ∀ y ∈ opn, ∃ x ∈ S, x.1 = y.1 := fun y hy => by
        have hm : y.1 ∈ opn.map (·.1) := List.mem_map.2 ⟨y, hy, rfl⟩
        rw [← s1] at hm
        obtain ⟨x, hx, hxy⟩ := List.mem_map.1 hm
        exact ⟨x, hx, hxy⟩
      have own2 : ∀ b, (e2.w.heap.size > b ∧ (w.heap.size ≤ b ∨ ∃ m, m ∈ fp.map (·.1) ∧ look (preH fp) m ≠ none ∧ b ∈ Lc m)) → b < e2.w.heap.size ∧ (w.heap.size ≤ b ∨ ∃ m, m ∈ cfp.map (·.1) ∧ look h m ≠ none ∧ b ∈ Lf m) := by
        rintro b ⟨h1, h2⟩
        refine ⟨h1, h2.imp id ?_⟩
        rintro ⟨m, h3, h4, h5⟩
        obtain ⟨x, hx, rfl⟩ := List.mem_map.1 h3
        exact ⟨rnm σ x.1, (memc _).2 (.inl ⟨x, hx, rfl⟩), preN _ h4, h5⟩
      have TT : Turns e (look h) Lf (fun n => n ∈ cfp.map (·.1)) e3 (upH (look h) cfp) Lf3 := {
        num := rfl
        w0 := rfl
        Fr := rfl
        Bo := rfl
        io := T.io
        size := T.size
        keep := fun b h1 h2 => T.keep b h1 (fun m hm hp hbm => by
          obtain ⟨x, hx, rfl⟩ := List.mem_map.1 hm
          exact h2 (rnm σ x.1) ((memc _).2 (.inl ⟨x, hx, rfl⟩)) (preN _ hp) hbm)
        φ := fun n hn => by
          have h1 : n ∉ S.map (·.1) := fun hm => by
            rw [s1] at hm
            obtain ⟨y, hy, rfl⟩ := List.mem_map.1 hm
            exact hn ((memc _).2 (.inr ⟨y, hy, rfl⟩))
          rw [φ3out n h1, φ2out n (fun hm => by
            obtain ⟨x, hx, rfl⟩ := List.mem_map.1 hm
            exact hn ((memc _).2 (.inl ⟨x, hx, rfl⟩)))]
          rfl
        φF := fun n hn hp => by
          rcases (memc n).1 hn with ⟨x, hx, rfl⟩ | ⟨y, hy, rfl⟩
          · rw [φ3fp x hx]
            have hpx : look (preH fp) x.1 ≠ none := by
              rw [look_preH hnd0 hx]
              intro h0
              exact hp (by show look h _ = none; rw [(hpre x hx).1, h0]; rfl)
            rcases T.φF x.1 (List.mem_map.2 ⟨x, hx, rfl⟩) hpx with h1 | h1
            · rw [h1, φc _ hpx]; exact .inl rfl
            · exact .inr h1
          · exact absurd (opnone y hy) hp
        rest := fun n hn => upH_none hn
        row := fun n row hn hr => by
          rcases (memc n).1 hn with ⟨x, hx, rfl⟩ | ⟨y, hy, rfl⟩
          · rw [upfp x hx] at hr
            cases hr2 : x.2.2 with
            | none => simp [hr2, renO] at hr
            | some r0 =>
            simp only [hr2, renO, Option.some.injEq] at hr
            subst hr
            have h1 := T.row x.1 r0 (List.mem_map.2 ⟨x, hx, rfl⟩) (by rw [look_postH hnd0 hx, hr2])
            have h2 := (hnb x hx).2 r0 hr2
            rw [L3fp x hx]
            unfold RowAt RowSp at h1 ⊢
            rw [φ3fp x hx]
            cases hq : e2.φ x.1 with
            | dead => rw [hq] at h1; exact h1
            | nilp =>
              rw [hq] at h1
              exact ⟨by rw [h1.1]; rfl, h1.2⟩
            | «at» p =>
              rw [hq] at h1
              obtain ⟨k1, k2, Lr, k3, k4⟩ := h1
              exact ⟨k1, by rw [renR_length]; exact k2, Lr, RRows_ren (f := rnm σ) (hsee2 _) (fun n ⟨y, hy, he, _⟩ => by rw [← he]; exact φ3fp y hy) r0.2 (fun b _ => rfl) h2 (fun _ => rfl) k3, k4⟩
          · rw [upop y hy] at hr
            simp only [Option.some.injEq] at hr
            subst hr
            obtain ⟨x, hx, hxy⟩ := opS y hy
            have h1 := g2 x hx y.2 (by rw [hxy]; exact hy)
            rw [← hxy]
            unfold RowAt
            rw [φ3in x hx, L3in x hx]
            exact h1
        nodup := fun n hn hp => by
          rcases (memc n).1 hn with ⟨x, hx, rfl⟩ | ⟨y, hy, rfl⟩
          · rw [upfp x hx] at hp
            rw [L3fp x hx]
            exact T.nodup x.1 (List.mem_map.2 ⟨x, hx, rfl⟩) (by rw [look_postH hnd0 hx]; exact fun h0 => hp (by rw [h0]; rfl))
          · obtain ⟨x, hx, hxy⟩ := opS y hy
            rw [← hxy, L3in x hx]
            rw [s2] at hLn
            exact nodup_flatMap_mem (f := fun (x : Nat × Spot × List Nat) => x.2.2) hLn hx
        blk := fun n hn hp b hb' => by
          rcases (memc n).1 hn with ⟨x, hx, rfl⟩ | ⟨y, hy, rfl⟩
          · rw [upfp x hx] at hp
            rw [L3fp x hx] at hb'
            exact own2 b (T.blk x.1 (List.mem_map.2 ⟨x, hx, rfl⟩) (by rw [look_postH hnd0 hx]; exact fun h0 => hp (by rw [h0]; rfl)) b hb')
          · obtain ⟨x, hx, hxy⟩ := opS y hy
            rw [← hxy, L3in x hx] at hb'
            exact own2 b (hLb b (by rw [s2]; exact List.mem_flatMap.2 ⟨x, hx, hb'⟩))
        dis := fun n m hn hm hp hq hne b hb1 hb2 => by
          rcases (memc n).1 hn with ⟨x, hx, rfl⟩ | ⟨y, hy, rfl⟩ <;> rcases (memc m).1 hm with ⟨x', hx', rfl⟩ | ⟨y', hy', rfl⟩
          · rw [upfp x hx] at hp
            rw [upfp x' hx'] at hq
            rw [L3fp x hx] at hb1
            rw [L3fp x' hx'] at hb2
            exact T.dis x.1 x'.1 (List.mem_map.2 ⟨x, hx, rfl⟩) (List.mem_map.2 ⟨x', hx', rfl⟩) (by rw [look_postH hnd0 hx]; exact fun h0 => hp (by rw [h0]; rfl)) (by rw [look_postH hnd0 hx']; exact fun h0 => hq (by rw [h0]; rfl)) (fun he => hne (by rw [he])) b hb1 hb2
          · rw [upfp x hx] at hp
            rw [L3fp x hx] at hb1
            obtain ⟨z, hz, hzy⟩ := opS y' hy'
            rw [← hzy, L3in z hz] at hb2
            exact hLd b (by rw [s2]; exact List.mem_flatMap.2 ⟨z, hz, hb2⟩) x.1 (List.mem_map.2 ⟨x, hx, rfl⟩) (by rw [look_postH hnd0 hx]; exact fun h0 => hp (by rw [h0]; rfl)) hb1
          · rw [upfp x' hx'] at hq
            rw [L3fp x' hx'] at hb2
            obtain ⟨z, hz, hzy⟩ := opS y hy
            rw [← hzy, L3in z hz] at hb1
            exact hLd b (by rw [s2]; exact List.mem_flatMap.2 ⟨z, hz, hb1⟩) x'.1 (List.mem_map.2 ⟨x', hx', rfl⟩) (by rw [look_postH hnd0 hx']; exact fun h0 => hq (by rw [h0]; rfl)) hb2
          · obtain ⟨z, hz, hzy⟩ := opS y hy
            obtain ⟨z', hz', hzy'⟩ := opS y' hy'
            rw [← hzy, L3in z hz] at hb1
            rw [← hzy', L3in z' hz'] at hb2
            rw [s2] at hLn
            exact flatMap_apart hLn hz hz' (fun he => hne (by rw [← hzy, ← hzy', he])) hb1 hb2
        dead := fun n hn hp => by
          rcases (memc n).1 hn with ⟨x, hx, rfl⟩ | ⟨y, hy, rfl⟩
          · rw [upfp x hx] at hp
            rw [φ3fp x hx]
            exact T.dead x.1 (List.mem_map.2 ⟨x, hx, rfl⟩) (by rw [look_postH hnd0 hx]; exact renO_none.1 hp)
          · rw [upop y hy] at hp
            simp at hp }
      exact k e3 Lf3 _ TT g1

theorem call_okG {m : MOp} {f nx n1 : Nat} {ps : List Bool} {xs : List Arg} {t : List (Nat × AV)} {h : Heap} {fp : FP} {res : AV} {vargs : List AV} (σ : List (Nat × Nat)) (hc : CallOk P num f vargs fp res)
    (hv : nilL (hand (ixm σ) h ps (xs.map (Arg.ev (lookT t)))) vargs)
    (hvo : handOk h (fun n => ∃ x ∈ fp, x.2.1 ≠ none ∧ n = rnm σ x.1 ∧ ixm σ n = x.1) (fun n => ∃ x ∈ fp, n = rnm σ x.1) ps (xs.map (Arg.ev (lookT t))))
    (hnd : (fp.map (fun x => rnm σ x.1)).Nodup) (hpre : ∀ x ∈ fp, look h (rnm σ x.1) = x.2.1 ∧ (x.2.1 = none → nx ≤ rnm σ x.1) ∧ rnm σ x.1 < n1)
    (hnb : ∀ x ∈ fp, (∀ r, x.2.1 = some r → nbr r.2) ∧ (∀ r, x.2.2 = some r → nbr r.2)) (hres : okV (fun k => ∃ x ∈ fp, x.1 = k ∧ x.2.2 ≠ none) res) (hn1 : nx ≤ n1) (hm : CallsIt P num m f xs t) :
    CallR P num m t h nx (openV n1 (renV (rnm σ) res)).1 (fp.map (fun x => (rnm σ x.1, x.2)) ++ fresh (openV n1 (renV (rnm σ) res)).2.1) (openV n1 (renV (rnm σ) res)).2.2 := by
  have hp : ∀ x ∈ fp, renO (rnm σ) x.2.1 = x.2.1 ∧ renO (rnm σ) x.2.2 = x.2.2 := fun x hx => by
    have := hnb x hx
    constructor
    · cases h1 : x.2.1 with
      | none => rfl
      | some r => simp only [renO, renR_nb _ _ (this.1 r h1)]
    · cases h1 : x.2.2 with
      | none => rfl
      | some r => simp only [renO, renR_nb _ _ (this.2 r h1)]
  have he : fp.map (fun x => (rnm σ x.1, x.2)) = fp.map (fun x => (rnm σ x.1, renO (rnm σ) x.2.1, renO (rnm σ) x.2.2)) :=
    List.map_congr_left fun x hx => by rw [(hp x hx).1, (hp x hx).2]
  rw [he]
  exact call_okN σ hc hv hvo hnd (fun x hx => by rw [(hp x hx).1]; exact hpre x hx) (fun x hx => ⟨fun r hr => okR_nb _ ((hnb x hx).1 r hr), fun r hr => okR_nb _ ((hnb x hx).2 r hr)⟩) hres hn1 hm

/-- The same, where nothing is created but the result. -/
theorem call_ok {f nx n1 : Nat} {ps : List Bool} {xs : List Arg} {t : List (Nat × AV)} {h : Heap} {fp : FP} {res : AV} {vargs : List AV} (σ : List (Nat × Nat)) (hc : CallOk P num f vargs fp res)
    (hv : nilL (hand (ixm σ) h ps (xs.map (Arg.ev (lookT t)))) vargs)
    (hvo : handOk h (fun n => ∃ x ∈ fp, x.2.1 ≠ none ∧ n = rnm σ x.1 ∧ ixm σ n = x.1) (fun n => ∃ x ∈ fp, n = rnm σ x.1) ps (xs.map (Arg.ev (lookT t))))
    (hnd : (fp.map (fun x => rnm σ x.1)).Nodup) (hpre : ∀ x ∈ fp, look h (rnm σ x.1) = x.2.1 ∧ (x.2.1 = none → nx ≤ rnm σ x.1) ∧ rnm σ x.1 < n1)
    (hnb : ∀ x ∈ fp, (∀ r, x.2.1 = some r → nbr r.2) ∧ (∀ r, x.2.2 = some r → nbr r.2)) (hres : okV (fun k => ∃ x ∈ fp, x.1 = k ∧ x.2.2 ≠ none) res) (hn1 : nx ≤ n1) :
    CallR P num (.call f ps xs) t h nx (openV n1 (renV (rnm σ) res)).1 (fp.map (fun x => (rnm σ x.1, x.2)) ++ fresh (openV n1 (renV (rnm σ) res)).2.1) (openV n1 (renV (rnm σ) res)).2.2 :=
  call_okG σ hc hv hvo hnd hpre hnb hres hn1 (calls_call hc.1)

theorem calv_ok {f nx n1 : Nat} {y : Arg} {ps : List Bool} {xs : List Arg} {t : List (Nat × AV)} {h : Heap} {fp : FP} {res : AV} {vargs : List AV} (σ : List (Nat × Nat)) (hc : CallOk P num f vargs fp res)
    (hv : nilL (hand (ixm σ) h ps (xs.map (Arg.ev (lookT t)))) vargs)
    (hvo : handOk h (fun n => ∃ x ∈ fp, x.2.1 ≠ none ∧ n = rnm σ x.1 ∧ ixm σ n = x.1) (fun n => ∃ x ∈ fp, n = rnm σ x.1) ps (xs.map (Arg.ev (lookT t))))
    (hnd : (fp.map (fun x => rnm σ x.1)).Nodup) (hpre : ∀ x ∈ fp, look h (rnm σ x.1) = x.2.1 ∧ (x.2.1 = none → nx ≤ rnm σ x.1) ∧ rnm σ x.1 < n1)
    (hnb : ∀ x ∈ fp, (∀ r, x.2.1 = some r → nbr r.2) ∧ (∀ r, x.2.2 = some r → nbr r.2)) (hres : okV (fun k => ∃ x ∈ fp, x.1 = k ∧ x.2.2 ≠ none) res) (hn1 : nx ≤ n1) (hy : y.ev (lookT t) = .fn f []) :
    CallR P num (.calv y xs) t h nx (openV n1 (renV (rnm σ) res)).1 (fp.map (fun x => (rnm σ x.1, x.2)) ++ fresh (openV n1 (renV (rnm σ) res)).2.1) (openV n1 (renV (rnm σ) res)).2.2 :=
  call_okG σ hc hv hvo hnd hpre hnb hres hn1 (calls_calv hc.1 hy)

theorem call_ok0 {f nx : Nat} {ps : List Bool} {xs : List Arg} {t : List (Nat × AV)} {h : Heap} {fp : FP} {res : AV} {vargs : List AV} (σ : List (Nat × Nat)) (hc : CallOk P num f vargs fp res)
    (hv : nilL (hand (ixm σ) h ps (xs.map (Arg.ev (lookT t)))) vargs)
    (hvo : handOk h (fun n => ∃ x ∈ fp, x.2.1 ≠ none ∧ n = rnm σ x.1 ∧ ixm σ n = x.1) (fun n => ∃ x ∈ fp, n = rnm σ x.1) ps (xs.map (Arg.ev (lookT t))))
    (hnd : (fp.map (fun x => rnm σ x.1)).Nodup) (hpre : ∀ x ∈ fp, look h (rnm σ x.1) = x.2.1 ∧ (x.2.1 = none → nx ≤ rnm σ x.1) ∧ rnm σ x.1 < nx)
    (hnb : ∀ x ∈ fp, (∀ r, x.2.1 = some r → nbr r.2) ∧ (∀ r, x.2.2 = some r → nbr r.2)) (hres : okV (fun k => ∃ x ∈ fp, x.1 = k ∧ x.2.2 ≠ none) res) :
    CallR P num (.call f ps xs) t h nx (openV nx (renV (rnm σ) res)).1 (fp.map (fun x => (rnm σ x.1, x.2)) ++ fresh (openV nx (renV (rnm σ) res)).2.1) (openV nx (renV (rnm σ) res)).2.2 :=
  call_ok σ hc hv hvo hnd hpre hnb hres (Nat.le_refl _)

theorem call_okN0 {f nx : Nat} {ps : List Bool} {xs : List Arg} {t : List (Nat × AV)} {h : Heap} {fp : FP} {res : AV} {vargs : List AV} (σ : List (Nat × Nat)) (hc : CallOk P num f vargs fp res)
    (hv : nilL (hand (ixm σ) h ps (xs.map (Arg.ev (lookT t)))) vargs)
    (hvo : handOk h (fun n => ∃ x ∈ fp, x.2.1 ≠ none ∧ n = rnm σ x.1 ∧ ixm σ n = x.1) (fun n => ∃ x ∈ fp, n = rnm σ x.1) ps (xs.map (Arg.ev (lookT t))))
    (hnd : (fp.map (fun x => rnm σ x.1)).Nodup) (hpre : ∀ x ∈ fp, look h (rnm σ x.1) = renO (rnm σ) x.2.1 ∧ (x.2.1 = none → nx ≤ rnm σ x.1) ∧ rnm σ x.1 < nx)
    (hnb : ∀ x ∈ fp, (∀ r, x.2.1 = some r → okR (fun k => ∃ y ∈ fp, y.1 = k ∧ y.2.1 ≠ none) r.2) ∧ (∀ r, x.2.2 = some r → okR (fun k => ∃ y ∈ fp, y.1 = k ∧ y.2.2 ≠ none) r.2)) (hres : okV (fun k => ∃ x ∈ fp, x.1 = k ∧ x.2.2 ≠ none) res) :
    CallR P num (.call f ps xs) t h nx (openV nx (renV (rnm σ) res)).1 (fp.map (fun x => (rnm σ x.1, renO (rnm σ) x.2.1, renO (rnm σ) x.2.2)) ++ fresh (openV nx (renV (rnm σ) res)).2.1) (openV nx (renV (rnm σ) res)).2.2 := by
  refine call_okN σ hc hv hvo hnd hpre hnb hres (Nat.le_refl _) (calls_call hc.1)

end
end Go.Sep

/- How the executor's question is unfolded, step by step. -/
namespace Go.Sep
set_option linter.unusedVariables false
set_option linter.unusedSimpArgs false

/-- The simplifier does not look into code that is still to be walked. -/
@[congr] theorem code_congr (c : MCode) : It.code c = It.code c := rfl
@[congr] theorem ops_congr (os : List MOper) : It.ops os = It.ops os := rfl
@[congr] theorem stop_congr (J : AS → Prop) : It.stop J = It.stop J := rfl
@[congr] theorem draw_congr (tr : DTree) {p p' : List (Nat × List Nat)} (h : p = p') : It.draw tr p = It.draw tr p' := by rw [h]

section
variable (P : Program) (num : Nat → Nat) (fin : AS → Prop)

/-- A branch that is still to be taken. -/
def branch (v : AV) (ka kb : List It) (s : AS) : Prop := ∃ q, v = .bool q ∧ (q = true → vc P num fin ka s) ∧ (q = false → vc P num fin kb s)

/-- A step whose outcome is told. -/
def next (r : Out) (dst : Option Nat) (k : List It) (t : List (Nat × AV)) (h : Heap) : Prop :=
  match r with
  | some (p, v, fp, nx') => p ∧ vc P num fin k (.mk (putD t dst v) (app1 h fp) nx')
  | none => False

/-- An operation that may be skipped. -/
def maybe (v : AV) (want : Bool) (o : MOper) (os : List MOper) (k : List It) (t : List (Nat × AV)) (h : Heap) (nx : Nat) : Prop :=
  ∃ q, gv v q ∧ (q = some want → vc P num fin (.ops (({ dst := o.dst, op := o.op, guard := none } : MOper) :: os) :: k) (.mk t h nx)) ∧ (q ≠ some want → vc P num fin (.ops os :: k) (.mk (putD t o.dst (.tup [])) h nx))

/-- A call that is still to be told. -/
def calls (op : MOp) (dst : Option Nat) (k : List It) (s : AS) : Prop := ∃ s', CallTo P num op dst s s' ∧ vc P num fin k s'

def loops (a : MCode) (k : List It) (s : AS) : Prop := vc P num fin (.code (.loop a) :: k) s

variable {P num fin}

@[congr] theorem vc_congr {k k' : List It} {s s' : AS} (h : k = k') (h' : s = s') : vc P num fin k s = vc P num fin k' s' := by rw [h, h']
@[congr] theorem next_congr {r r' : Out} {dst : Option Nat} {k k' : List It} {t t' : List (Nat × AV)} {h h' : Heap} (h1 : r = r') (h2 : k = k') (h3 : t = t') (h4 : h = h') : next P num fin r dst k t h = next P num fin r' dst k' t' h' := by rw [h1, h2, h3, h4]
@[congr] theorem maybe_congr {v v' : AV} {want : Bool} {o : MOper} {os : List MOper} {k k' : List It} {t t' : List (Nat × AV)} {h h' : Heap} {nx nx' : Nat} (h1 : v = v') (h2 : k = k') (h3 : t = t') (h4 : h = h') (h5 : nx = nx') :
    maybe P num fin v want o os k t h nx = maybe P num fin v' want o os k' t' h' nx' := by rw [h1, h2, h3, h4, h5]
@[congr] theorem calls_congr {op : MOp} {dst : Option Nat} {k k' : List It} {s s' : AS} (h1 : k = k') (h2 : s = s') : calls P num fin op dst k s = calls P num fin op dst k' s' := by rw [h1, h2]
@[congr] theorem loops_congr {a : MCode} {k k' : List It} {s s' : AS} (h1 : k = k') (h2 : s = s') : loops P num fin a k s = loops P num fin a k' s' := by rw [h1, h2]

theorem e_nil (s : AS) : vc P num fin [] s = fin s := by rw [vc]
theorem e_stop (J : AS → Prop) (k : List It) (s : AS) : vc P num fin (.stop J :: k) s = J s := by rw [vc]
theorem e_blk (id : Nat) (k : List It) (s : AS) : vc P num fin (.blk id :: k) s = vc P num fin k s := by rw [vc]
theorem e_ops (k : List It) (s : AS) : vc P num fin (.ops [] :: k) s = vc P num fin k s := by rw [vc]
theorem e_skip (k : List It) (s : AS) : vc P num fin (.code .skip :: k) s = vc P num fin k s := by rw [vc]
theorem e_ret (k : List It) (s : AS) : vc P num fin (.code .ret :: k) s = fin s := by rw [vc]
theorem e_exit (id : Nat) (k : List It) (s : AS) : vc P num fin (.code (.exit id) :: k) s = vc P num fin (exitIt id k) s := by rw [vc]
theorem e_seq (a b : MCode) (k : List It) (s : AS) : vc P num fin (.code (.seq a b) :: k) s = vc P num fin (.code a :: .code b :: k) s := by rw [vc]
theorem e_block (id : Nat) (a : MCode) (k : List It) (s : AS) : vc P num fin (.code (.blk id a) :: k) s = vc P num fin (.code a :: .blk id :: k) s := by rw [vc]
theorem e_reg (d : Bool) (ops : List MOper) (k : List It) (s : AS) : vc P num fin (.code (.reg d ops) :: k) s = vc P num fin (.ops ops :: k) s := by rw [vc]
theorem e_cond (x : Nat) (a b : MCode) (k : List It) (t : List (Nat × AV)) (h : Heap) (nx : Nat) : vc P num fin (.code (.cond x a b) :: k) (.mk t h nx) = branch P num fin (lookT t x) (.code a :: k) (.code b :: k) (.mk t h nx) := by
  rw [vc]; rfl
theorem e_loop (a : MCode) (k : List It) (s : AS) : vc P num fin (.code (.loop a) :: k) s = loops P num fin a k s := rfl
theorem e_guard (dst : Option Nat) (op : MOp) (g : Nat) (want : Bool) (os : List MOper) (k : List It) (t : List (Nat × AV)) (h : Heap) (nx : Nat) :
    vc P num fin (.ops (⟨dst, op, some (g, want)⟩ :: os) :: k) (.mk t h nx) = maybe P num fin (lookT t g) want ⟨dst, op, none⟩ os k t h nx := by
  rw [vc]; rfl
theorem e_call (dst : Option Nat) (f : Nat) (ps : List Bool) (xs : List Arg) (os : List MOper) (k : List It) (t : List (Nat × AV)) (h : Heap) (nx : Nat) :
    vc P num fin (.ops (⟨dst, .call f ps xs, none⟩ :: os) :: k) (.mk t h nx) = calls P num fin (.call f ps xs) dst (.ops os :: k) (.mk t h nx) := by
  rw [vc_op]; rfl
theorem e_calv (dst : Option Nat) (g : Arg) (xs : List Arg) (os : List MOper) (k : List It) (t : List (Nat × AV)) (h : Heap) (nx : Nat) :
    vc P num fin (.ops (⟨dst, .calv g xs, none⟩ :: os) :: k) (.mk t h nx) = calls P num fin (.calv g xs) dst (.ops os :: k) (.mk t h nx) := by
  rw [vc_op]; rfl

theorem e_op (dst : Option Nat) (op : MOp) (hc : isCall op = false) (os : List MOper) (k : List It) (t : List (Nat × AV)) (h : Heap) (nx : Nat) :
    vc P num fin (.ops (⟨dst, op, none⟩ :: os) :: k) (.mk t h nx) = next P num fin (plan (lookT t) h nx op) dst (.ops os :: k) t h := by
  rw [vc_op, hc]
  rfl

/-- Each operation asks what its plan tells. -/
theorem e_ops1 (dst : Option Nat) (os : List MOper) (k : List It) (t : List (Nat × AV)) (h : Heap) (nx : Nat) :
  (∀ x', vc P num fin (.ops (⟨dst, .mv x', none⟩ :: os) :: k) (.mk t h nx) = next P num fin (plan (lookT t) h nx (.mv x')) dst (.ops os :: k) t h) ∧
  (∀ c' a' b', vc P num fin (.ops (⟨dst, .pick c' a' b', none⟩ :: os) :: k) (.mk t h nx) = next P num fin (plan (lookT t) h nx (.pick c' a' b')) dst (.ops os :: k) t h) ∧
  (∀ z', vc P num fin (.ops (⟨dst, .alloc z', none⟩ :: os) :: k) (.mk t h nx) = next P num fin (plan (lookT t) h nx (.alloc z')) dst (.ops os :: k) t h) ∧
  (∀ x', vc P num fin (.ops (⟨dst, .box x', none⟩ :: os) :: k) (.mk t h nx) = next P num fin (plan (lookT t) h nx (.box x')) dst (.ops os :: k) t h) ∧
  (∀ z' ps', vc P num fin (.ops (⟨dst, .build z' ps', none⟩ :: os) :: k) (.mk t h nx) = next P num fin (plan (lookT t) h nx (.build z' ps')) dst (.ops os :: k) t h) ∧
  (∀ z' l' ps', vc P num fin (.ops (⟨dst, .mkSl z' l' ps', none⟩ :: os) :: k) (.mk t h nx) = next P num fin (plan (lookT t) h nx (.mkSl z' l' ps')) dst (.ops os :: k) t h) ∧
  (∀ n' ag' a', vc P num fin (.ops (⟨dst, .load n' ag' a', none⟩ :: os) :: k) (.mk t h nx) = next P num fin (plan (lookT t) h nx (.load n' ag' a')) dst (.ops os :: k) t h) ∧
  (∀ n' a' v', vc P num fin (.ops (⟨dst, .store n' a' v', none⟩ :: os) :: k) (.mk t h nx) = next P num fin (plan (lookT t) h nx (.store n' a' v')) dst (.ops os :: k) t h) ∧
  (∀ x', vc P num fin (.ops (⟨dst, .nilck x', none⟩ :: os) :: k) (.mk t h nx) = next P num fin (plan (lookT t) h nx (.nilck x')) dst (.ops os :: k) t h) ∧
  (∀ b' x' y', vc P num fin (.ops (⟨dst, .bin b' x' y', none⟩ :: os) :: k) (.mk t h nx) = next P num fin (plan (lookT t) h nx (.bin b' x' y')) dst (.ops os :: k) t h) ∧
  (∀ g' ks' x' y', vc P num fin (.ops (⟨dst, .eqS g' ks' x' y', none⟩ :: os) :: k) (.mk t h nx) = next P num fin (plan (lookT t) h nx (.eqS g' ks' x' y')) dst (.ops os :: k) t h) ∧
  (∀ g' x' y', vc P num fin (.ops (⟨dst, .eqB g' x' y', none⟩ :: os) :: k) (.mk t h nx) = next P num fin (plan (lookT t) h nx (.eqB g' x' y')) dst (.ops os :: k) t h) ∧
  (∀ x', vc P num fin (.ops (⟨dst, .neNil x', none⟩ :: os) :: k) (.mk t h nx) = next P num fin (plan (lookT t) h nx (.neNil x')) dst (.ops os :: k) t h) ∧
  (∀ u' x', vc P num fin (.ops (⟨dst, .un u' x', none⟩ :: os) :: k) (.mk t h nx) = next P num fin (plan (lookT t) h nx (.un u' x')) dst (.ops os :: k) t h) ∧
  (∀ k' x', vc P num fin (.ops (⟨dst, .cvi k' x', none⟩ :: os) :: k) (.mk t h nx) = next P num fin (plan (lookT t) h nx (.cvi k' x')) dst (.ops os :: k) t h) ∧
  (∀ x', vc P num fin (.ops (⟨dst, .cvs x', none⟩ :: os) :: k) (.mk t h nx) = next P num fin (plan (lookT t) h nx (.cvs x')) dst (.ops os :: k) t h) ∧
  (∀ z' b' l' c', vc P num fin (.ops (⟨dst, .mkS z' b' l' c', none⟩ :: os) :: k) (.mk t h nx) = next P num fin (plan (lookT t) h nx (.mkS z' b' l' c')) dst (.ops os :: k) t h) ∧
  (∀ s' x' l' h', vc P num fin (.ops (⟨dst, .cut s' x' l' h', none⟩ :: os) :: k) (.mk t h nx) = next P num fin (plan (lookT t) h nx (.cut s' x' l' h')) dst (.ops os :: k) t h) ∧
  (∀ x' l' h', vc P num fin (.ops (⟨dst, .cutS x' l' h', none⟩ :: os) :: k) (.mk t h nx) = next P num fin (plan (lookT t) h nx (.cutS x' l' h')) dst (.ops os :: k) t h) ∧
  (∀ o' x', vc P num fin (.ops (⟨dst, .fad o' x', none⟩ :: os) :: k) (.mk t h nx) = next P num fin (plan (lookT t) h nx (.fad o' x')) dst (.ops os :: k) t h) ∧
  (∀ o' n' ag' x', vc P num fin (.ops (⟨dst, .fld o' n' ag' x', none⟩ :: os) :: k) (.mk t h nx) = next P num fin (plan (lookT t) h nx (.fld o' n' ag' x')) dst (.ops os :: k) t h) ∧
  (∀ s' x' i', vc P num fin (.ops (⟨dst, .iad s' x' i', none⟩ :: os) :: k) (.mk t h nx) = next P num fin (plan (lookT t) h nx (.iad s' x' i')) dst (.ops os :: k) t h) ∧
  (∀ x' i', vc P num fin (.ops (⟨dst, .idx x' i', none⟩ :: os) :: k) (.mk t h nx) = next P num fin (plan (lookT t) h nx (.idx x' i')) dst (.ops os :: k) t h) ∧
  (∀ x' i', vc P num fin (.ops (⟨dst, .ext x' i', none⟩ :: os) :: k) (.mk t h nx) = next P num fin (plan (lookT t) h nx (.ext x' i')) dst (.ops os :: k) t h) ∧
  (∀ x', vc P num fin (.ops (⟨dst, .len x', none⟩ :: os) :: k) (.mk t h nx) = next P num fin (plan (lookT t) h nx (.len x')) dst (.ops os :: k) t h) ∧
  (∀ x', vc P num fin (.ops (⟨dst, .lenS x', none⟩ :: os) :: k) (.mk t h nx) = next P num fin (plan (lookT t) h nx (.lenS x')) dst (.ops os :: k) t h) ∧
  (∀ x' y', vc P num fin (.ops (⟨dst, .mx x' y', none⟩ :: os) :: k) (.mk t h nx) = next P num fin (plan (lookT t) h nx (.mx x' y')) dst (.ops os :: k) t h) ∧
  (∀ s' b' x' y', vc P num fin (.ops (⟨dst, .app s' b' x' y', none⟩ :: os) :: k) (.mk t h nx) = next P num fin (plan (lookT t) h nx (.app s' b' x' y')) dst (.ops os :: k) t h) ∧
  (∀ z' x', vc P num fin (.ops (⟨dst, .clr z' x', none⟩ :: os) :: k) (.mk t h nx) = next P num fin (plan (lookT t) h nx (.clr z' x')) dst (.ops os :: k) t h) :=
  ⟨fun _ => e_op dst _ rfl os k t h nx, fun _ _ _ => e_op dst _ rfl os k t h nx, fun _ => e_op dst _ rfl os k t h nx, fun _ => e_op dst _ rfl os k t h nx, fun _ _ => e_op dst _ rfl os k t h nx, fun _ _ _ => e_op dst _ rfl os k t h nx, fun _ _ _ => e_op dst _ rfl os k t h nx, fun _ _ _ => e_op dst _ rfl os k t h nx, fun _ => e_op dst _ rfl os k t h nx, fun _ _ _ => e_op dst _ rfl os k t h nx, fun _ _ _ _ => e_op dst _ rfl os k t h nx, fun _ _ _ => e_op dst _ rfl os k t h nx, fun _ => e_op dst _ rfl os k t h nx, fun _ _ => e_op dst _ rfl os k t h nx, fun _ _ => e_op dst _ rfl os k t h nx, fun _ => e_op dst _ rfl os k t h nx, fun _ _ _ _ => e_op dst _ rfl os k t h nx, fun _ _ _ _ => e_op dst _ rfl os k t h nx, fun _ _ _ => e_op dst _ rfl os k t h nx, fun _ _ => e_op dst _ rfl os k t h nx, fun _ _ _ _ => e_op dst _ rfl os k t h nx, fun _ _ _ => e_op dst _ rfl os k t h nx, fun _ _ => e_op dst _ rfl os k t h nx, fun _ _ => e_op dst _ rfl os k t h nx, fun _ => e_op dst _ rfl os k t h nx, fun _ => e_op dst _ rfl os k t h nx, fun _ _ => e_op dst _ rfl os k t h nx, fun _ _ _ _ => e_op dst _ rfl os k t h nx, fun _ _ => e_op dst _ rfl os k t h nx⟩

theorem next_some (p : Prop) (v : AV) (fp : FP) (nx : Nat) (dst : Option Nat) (k : List It) (t : List (Nat × AV)) (h : Heap) :
    next P num fin (some (p, v, fp, nx)) dst k t h = (p ∧ vc P num fin k (.mk (putD t dst v) (app1 h fp) nx)) := rfl

theorem next_ok (v : AV) (nx : Nat) (dst : Option Nat) (k : List It) (t : List (Nat × AV)) (h : Heap) : next P num fin (ok v nx) dst k t h = vc P num fin k (.mk (putD t dst v) h nx) := by
  show (True ∧ vc P num fin k (.mk (putD t dst v) (app1 h []) nx)) = _
  rw [true_and]
  rfl

theorem branch_intro {c : Bool} {ka kb : List It} {s : AS} (h1 : c = true → vc P num fin ka s) (h2 : c = false → vc P num fin kb s) : branch P num fin (.bool c) ka kb s := ⟨c, rfl, h1, h2⟩
theorem branch_true (ka kb : List It) (s : AS) : branch P num fin (.bool true) ka kb s = vc P num fin ka s := by
  refine propext ⟨fun ⟨q, h1, h2, h3⟩ => ?_, fun h => ⟨true, rfl, fun _ => h, fun h => by simp at h⟩⟩
  simp only [AV.bool.injEq] at h1
  exact h2 h1.symm
theorem branch_false (ka kb : List It) (s : AS) : branch P num fin (.bool false) ka kb s = vc P num fin kb s := by
  refine propext ⟨fun ⟨q, h1, h2, h3⟩ => ?_, fun h => ⟨false, rfl, fun h => by simp at h, fun _ => h⟩⟩
  simp only [AV.bool.injEq] at h1
  exact h3 h1.symm
theorem gv_bool (b : Bool) (q : Option Bool) : gv (.bool b) q = (q = some b) := by
  refine propext ⟨fun h => ?_, fun h => .inl ⟨b, rfl, h⟩⟩
  rcases h with ⟨c, h1, rfl⟩ | ⟨h1, _⟩
  · simp only [AV.bool.injEq] at h1
    rw [h1]
  · simp at h1
theorem gv_skip (q : Option Bool) : gv (.tup []) q = (q = none) := by
  refine propext ⟨fun h => ?_, fun h => .inr ⟨rfl, h⟩⟩
  rcases h with ⟨c, h1, rfl⟩ | ⟨_, h1⟩
  · simp at h1
  · exact h1
theorem maybe_do (b : Bool) (o : MOper) (os : List MOper) (k : List It) (t : List (Nat × AV)) (h : Heap) (nx : Nat) : maybe P num fin (.bool b) b o os k t h nx = vc P num fin (.ops (⟨o.dst, o.op, none⟩ :: os) :: k) (.mk t h nx) := by
  simp only [maybe, gv_bool, exists_eq_left, ne_eq, not_true_eq_false, false_implies, and_true, true_implies]
theorem maybe_tf (o : MOper) (os : List MOper) (k : List It) (t : List (Nat × AV)) (h : Heap) (nx : Nat) : maybe P num fin (.bool true) false o os k t h nx = vc P num fin (.ops os :: k) (.mk (putD t o.dst (.tup [])) h nx) := by
  simp [maybe, gv_bool]
theorem maybe_ft (o : MOper) (os : List MOper) (k : List It) (t : List (Nat × AV)) (h : Heap) (nx : Nat) : maybe P num fin (.bool false) true o os k t h nx = vc P num fin (.ops os :: k) (.mk (putD t o.dst (.tup [])) h nx) := by
  simp [maybe, gv_bool]
theorem maybe_skip (want : Bool) (o : MOper) (os : List MOper) (k : List It) (t : List (Nat × AV)) (h : Heap) (nx : Nat) : maybe P num fin (.tup []) want o os k t h nx = vc P num fin (.ops os :: k) (.mk (putD t o.dst (.tup [])) h nx) := by
  simp [maybe, gv_skip]
theorem maybe_intro {c want : Bool} {o : MOper} {os : List MOper} {k : List It} {t : List (Nat × AV)} {h : Heap} {nx : Nat} (h1 : c = want → vc P num fin (.ops (⟨o.dst, o.op, none⟩ :: os) :: k) (.mk t h nx))
    (h2 : c ≠ want → vc P num fin (.ops os :: k) (.mk (putD t o.dst (.tup [])) h nx)) : maybe P num fin (.bool c) want o os k t h nx := ⟨some c, .inl ⟨c, rfl, rfl⟩, fun h => h1 (Option.some.inj h), fun h => h2 (fun h' => h (by rw [h']))⟩

/-- Back at the head of a loop. -/
def back {ι : Type} (I : ι → AS) (good : ι → Prop) (μ : ι → Nat) (n : Nat) (s : AS) : Prop := ∃ s1, Sub s s1 ∧ ∃ m, m < n ∧ ∃ i, s1 = I i ∧ good i ∧ μ i = m

theorem back_intro {ι : Type} {I : ι → AS} {good : ι → Prop} {μ : ι → Nat} {n : Nat} {s : AS} (i : ι) (h : Sub s (I i)) (hg : good i) (hm : μ i < n) : back I good μ n s := ⟨I i, h, μ i, hm, i, rfl, hg, rfl⟩

theorem calls_intro {op : MOp} {dst : Option Nat} {k : List It} {t : List (Nat × AV)} {h : Heap} {nx nx' : Nat} {v : AV} {fp : FP} (hc : CallR P num op t h nx v fp nx') (hk : vc P num fin k (.mk (putD t dst v) (app1 h fp) nx')) : calls P num fin op dst k (.mk t h nx) :=
  ⟨_, hc.to, hk⟩

theorem calls_sub {op : MOp} {dst : Option Nat} {k : List It} {s s1 : AS} (hs : Sub s s1) (h : calls P num fin op dst k s1) : calls P num fin op dst k s := by
  obtain ⟨s', h1, h2⟩ := h
  exact ⟨s', h1.sub hs, h2⟩

/-- Drawn regions. -/
theorem e_dreg (tr : DTree) (k : List It) (s : AS) : vc P num fin (.code (.dreg tr) :: k) s = vc P num fin (.draw tr [] :: k) s := by rw [vc]
theorem e_done (pend : List (Nat × List Nat)) (k : List It) (s : AS) : vc P num fin (.draw .done pend :: k) s = vc P num fin k s := by rw [vc]
theorem e_both (i : Nat) (di : List Nat) (o : MOper) (tr : DTree) (j : Nat) (dj : List Nat) (p : MOper) (tr' : DTree) (pend : List (Nat × List Nat)) (k : List It) (s : AS) :
    vc P num fin (.draw (.both i di o tr j dj p tr') pend :: k) s = (vc P num fin (.draw (.only i di o tr) pend :: k) s ∧ vc P num fin (.draw (.only j dj p tr') pend :: k) s) := by rw [vc]

theorem e_tri (i : Nat) (di : List Nat) (o : MOper) (tr : DTree) (j : Nat) (dj : List Nat) (p : MOper) (tr' : DTree) (m : Nat) (dm : List Nat) (q : MOper) (tr2 : DTree) (pend : List (Nat × List Nat)) (k : List It) (s : AS) :
    vc P num fin (.draw (.tri i di o tr j dj p tr' m dm q tr2) pend :: k) s = (vc P num fin (.draw (.only i di o tr) pend :: k) s ∧ vc P num fin (.draw (.only j dj p tr') pend :: k) s ∧ vc P num fin (.draw (.only m dm q tr2) pend :: k) s) := by rw [vc]

variable (P num fin) in
def dnext (r : Out) (rd : FP → Heap → Prop) (pend : FP → List (Nat × List Nat)) (dst : Option Nat) (tr : DTree) (k : List It) (t : List (Nat × AV)) (h : Heap) : Prop :=
  match r with
  | some (p, v, fp, nx') => p ∧ rd fp (app1 h fp) ∧ vc P num fin (.draw tr (pend fp) :: k) (.mk (putD t dst v) (app1 h fp) nx')
  | none => False

theorem dnext_some (p : Prop) (v : AV) (fp : FP) (nx : Nat) (rd : FP → Heap → Prop) (pend : FP → List (Nat × List Nat)) (dst : Option Nat) (tr : DTree) (k : List It) (t : List (Nat × AV)) (h : Heap) :
    dnext P num fin (some (p, v, fp, nx)) rd pend dst tr k t h = (p ∧ rd fp (app1 h fp) ∧ vc P num fin (.draw tr (pend fp) :: k) (.mk (putD t dst v) (app1 h fp) nx)) := rfl
theorem dnext_ok (v : AV) (nx : Nat) (rd : FP → Heap → Prop) (pend : FP → List (Nat × List Nat)) (dst : Option Nat) (tr : DTree) (k : List It) (t : List (Nat × AV)) (h : Heap) :
    dnext P num fin (ok v nx) rd pend dst tr k t h = (rd [] h ∧ vc P num fin (.draw tr (pend []) :: k) (.mk (putD t dst v) h nx)) := by
  show (True ∧ rd [] (app1 h []) ∧ vc P num fin (.draw tr (pend []) :: k) (.mk (putD t dst v) (app1 h []) nx)) = _
  rw [true_and]
  rfl

/-- What a read needs. -/
def rdTake (i : Nat) (pend : List (Nat × List Nat)) (fp : FP) (h : Heap) : Prop := alive (addP i (needs fp) pend) h
def pdTake (i : Nat) (pend : List (Nat × List Nat)) (fp : FP) : List (Nat × List Nat) := addP i (needs fp) pend
def rdOnly (r : Bool) (pend : List (Nat × List Nat)) (fp : FP) (h : Heap) : Prop := if r then alive pend h else apart pend fp
def pdOnly (pend : List (Nat × List Nat)) (_ : FP) : List (Nat × List Nat) := pend

theorem e_take (i : Nat) (dst : Option Nat) (op : MOp) (tr : DTree) (pend : List (Nat × List Nat)) (k : List It) (t : List (Nat × AV)) (h : Heap) (nx : Nat) :
    vc P num fin (.draw (.take i ⟨dst, op, none⟩ tr) pend :: k) (.mk t h nx) = dnext P num fin (plan (lookT t) h nx op) (rdTake i pend) (pdTake i pend) dst tr k t h := by
  rw [vc]; rfl

variable (P num fin) in
def dcall (op : MOp) (pend : List (Nat × List Nat)) (dst : Option Nat) (tr : DTree) (k : List It) (t : List (Nat × AV)) (h : Heap) (nx : Nat) : Prop :=
  ∃ v fp nx', CallR P num op t h nx v fp nx' ∧ apart pend fp ∧ vc P num fin (.draw tr pend :: k) (.mk (putD t dst v) (app1 h fp) nx')

theorem dcall_intro {op : MOp} {pend : List (Nat × List Nat)} {dst : Option Nat} {tr : DTree} {k : List It} {t : List (Nat × AV)} {h : Heap} {nx nx' : Nat} {v : AV} {fp : FP} (hc : CallR P num op t h nx v fp nx') (ha : apart pend fp)
    (hk : vc P num fin (.draw tr pend :: k) (.mk (putD t dst v) (app1 h fp) nx')) : dcall P num fin op pend dst tr k t h nx := ⟨_, _, _, hc, ha, hk⟩

theorem e_onlyc (i : Nat) (deps : List Nat) (dst : Option Nat) (f : Nat) (ps : List Bool) (xs : List Arg) (tr : DTree) (pend : List (Nat × List Nat)) (k : List It) (t : List (Nat × AV)) (h : Heap) (nx : Nat) :
    vc P num fin (.draw (.only i deps ⟨dst, .call f ps xs, none⟩ tr) pend :: k) (.mk t h nx) = dcall P num fin (.call f ps xs) (undep deps pend) dst tr k t h nx := by
  rw [vc]; rfl

theorem e_only (i : Nat) (deps : List Nat) (dst : Option Nat) (op : MOp) (hc : isCall op = false) (tr : DTree) (pend : List (Nat × List Nat)) (k : List It) (t : List (Nat × AV)) (h : Heap) (nx : Nat) :
    vc P num fin (.draw (.only i deps ⟨dst, op, none⟩ tr) pend :: k) (.mk t h nx) = dnext P num fin (plan (lookT t) h nx op) (rdOnly (isRead op) (undep deps pend)) (pdOnly (undep deps pend)) dst tr k t h := by
  rw [vc]
  simp only [hc]
  rfl

/-- The one that may come up, by its form. -/
theorem e_only1 (i : Nat) (deps : List Nat) (dst : Option Nat) (tr : DTree) (pend : List (Nat × List Nat)) (k : List It) (t : List (Nat × AV)) (h : Heap) (nx : Nat) :
  (∀ x', vc P num fin (.draw (.only i deps ⟨dst, .mv x', none⟩ tr) pend :: k) (.mk t h nx) = dnext P num fin (plan (lookT t) h nx (.mv x')) (rdOnly true (undep deps pend)) (pdOnly (undep deps pend)) dst tr k t h) ∧
  (∀ c' a' b', vc P num fin (.draw (.only i deps ⟨dst, .pick c' a' b', none⟩ tr) pend :: k) (.mk t h nx) = dnext P num fin (plan (lookT t) h nx (.pick c' a' b')) (rdOnly true (undep deps pend)) (pdOnly (undep deps pend)) dst tr k t h) ∧
  (∀ z', vc P num fin (.draw (.only i deps ⟨dst, .alloc z', none⟩ tr) pend :: k) (.mk t h nx) = dnext P num fin (plan (lookT t) h nx (.alloc z')) (rdOnly false (undep deps pend)) (pdOnly (undep deps pend)) dst tr k t h) ∧
  (∀ x', vc P num fin (.draw (.only i deps ⟨dst, .box x', none⟩ tr) pend :: k) (.mk t h nx) = dnext P num fin (plan (lookT t) h nx (.box x')) (rdOnly false (undep deps pend)) (pdOnly (undep deps pend)) dst tr k t h) ∧
  (∀ z' ps', vc P num fin (.draw (.only i deps ⟨dst, .build z' ps', none⟩ tr) pend :: k) (.mk t h nx) = dnext P num fin (plan (lookT t) h nx (.build z' ps')) (rdOnly true (undep deps pend)) (pdOnly (undep deps pend)) dst tr k t h) ∧
  (∀ z' l' ps', vc P num fin (.draw (.only i deps ⟨dst, .mkSl z' l' ps', none⟩ tr) pend :: k) (.mk t h nx) = dnext P num fin (plan (lookT t) h nx (.mkSl z' l' ps')) (rdOnly false (undep deps pend)) (pdOnly (undep deps pend)) dst tr k t h) ∧
  (∀ n' ag' a', vc P num fin (.draw (.only i deps ⟨dst, .load n' ag' a', none⟩ tr) pend :: k) (.mk t h nx) = dnext P num fin (plan (lookT t) h nx (.load n' ag' a')) (rdOnly true (undep deps pend)) (pdOnly (undep deps pend)) dst tr k t h) ∧
  (∀ n' a' v', vc P num fin (.draw (.only i deps ⟨dst, .store n' a' v', none⟩ tr) pend :: k) (.mk t h nx) = dnext P num fin (plan (lookT t) h nx (.store n' a' v')) (rdOnly false (undep deps pend)) (pdOnly (undep deps pend)) dst tr k t h) ∧
  (∀ x', vc P num fin (.draw (.only i deps ⟨dst, .nilck x', none⟩ tr) pend :: k) (.mk t h nx) = dnext P num fin (plan (lookT t) h nx (.nilck x')) (rdOnly true (undep deps pend)) (pdOnly (undep deps pend)) dst tr k t h) ∧
  (∀ b' x' y', vc P num fin (.draw (.only i deps ⟨dst, .bin b' x' y', none⟩ tr) pend :: k) (.mk t h nx) = dnext P num fin (plan (lookT t) h nx (.bin b' x' y')) (rdOnly true (undep deps pend)) (pdOnly (undep deps pend)) dst tr k t h) ∧
  (∀ g' ks' x' y', vc P num fin (.draw (.only i deps ⟨dst, .eqS g' ks' x' y', none⟩ tr) pend :: k) (.mk t h nx) = dnext P num fin (plan (lookT t) h nx (.eqS g' ks' x' y')) (rdOnly true (undep deps pend)) (pdOnly (undep deps pend)) dst tr k t h) ∧
  (∀ g' x' y', vc P num fin (.draw (.only i deps ⟨dst, .eqB g' x' y', none⟩ tr) pend :: k) (.mk t h nx) = dnext P num fin (plan (lookT t) h nx (.eqB g' x' y')) (rdOnly true (undep deps pend)) (pdOnly (undep deps pend)) dst tr k t h) ∧
  (∀ x', vc P num fin (.draw (.only i deps ⟨dst, .neNil x', none⟩ tr) pend :: k) (.mk t h nx) = dnext P num fin (plan (lookT t) h nx (.neNil x')) (rdOnly true (undep deps pend)) (pdOnly (undep deps pend)) dst tr k t h) ∧
  (∀ u' x', vc P num fin (.draw (.only i deps ⟨dst, .un u' x', none⟩ tr) pend :: k) (.mk t h nx) = dnext P num fin (plan (lookT t) h nx (.un u' x')) (rdOnly true (undep deps pend)) (pdOnly (undep deps pend)) dst tr k t h) ∧
  (∀ k' x', vc P num fin (.draw (.only i deps ⟨dst, .cvi k' x', none⟩ tr) pend :: k) (.mk t h nx) = dnext P num fin (plan (lookT t) h nx (.cvi k' x')) (rdOnly true (undep deps pend)) (pdOnly (undep deps pend)) dst tr k t h) ∧
  (∀ x', vc P num fin (.draw (.only i deps ⟨dst, .cvs x', none⟩ tr) pend :: k) (.mk t h nx) = dnext P num fin (plan (lookT t) h nx (.cvs x')) (rdOnly true (undep deps pend)) (pdOnly (undep deps pend)) dst tr k t h) ∧
  (∀ z' b' l' c', vc P num fin (.draw (.only i deps ⟨dst, .mkS z' b' l' c', none⟩ tr) pend :: k) (.mk t h nx) = dnext P num fin (plan (lookT t) h nx (.mkS z' b' l' c')) (rdOnly false (undep deps pend)) (pdOnly (undep deps pend)) dst tr k t h) ∧
  (∀ s' x' l' h', vc P num fin (.draw (.only i deps ⟨dst, .cut s' x' l' h', none⟩ tr) pend :: k) (.mk t h nx) = dnext P num fin (plan (lookT t) h nx (.cut s' x' l' h')) (rdOnly true (undep deps pend)) (pdOnly (undep deps pend)) dst tr k t h) ∧
  (∀ x' l' h', vc P num fin (.draw (.only i deps ⟨dst, .cutS x' l' h', none⟩ tr) pend :: k) (.mk t h nx) = dnext P num fin (plan (lookT t) h nx (.cutS x' l' h')) (rdOnly true (undep deps pend)) (pdOnly (undep deps pend)) dst tr k t h) ∧
  (∀ o' x', vc P num fin (.draw (.only i deps ⟨dst, .fad o' x', none⟩ tr) pend :: k) (.mk t h nx) = dnext P num fin (plan (lookT t) h nx (.fad o' x')) (rdOnly true (undep deps pend)) (pdOnly (undep deps pend)) dst tr k t h) ∧
  (∀ o' n' ag' x', vc P num fin (.draw (.only i deps ⟨dst, .fld o' n' ag' x', none⟩ tr) pend :: k) (.mk t h nx) = dnext P num fin (plan (lookT t) h nx (.fld o' n' ag' x')) (rdOnly true (undep deps pend)) (pdOnly (undep deps pend)) dst tr k t h) ∧
  (∀ s' x' i', vc P num fin (.draw (.only i deps ⟨dst, .iad s' x' i', none⟩ tr) pend :: k) (.mk t h nx) = dnext P num fin (plan (lookT t) h nx (.iad s' x' i')) (rdOnly true (undep deps pend)) (pdOnly (undep deps pend)) dst tr k t h) ∧
  (∀ x' i', vc P num fin (.draw (.only i deps ⟨dst, .idx x' i', none⟩ tr) pend :: k) (.mk t h nx) = dnext P num fin (plan (lookT t) h nx (.idx x' i')) (rdOnly true (undep deps pend)) (pdOnly (undep deps pend)) dst tr k t h) ∧
  (∀ x' i', vc P num fin (.draw (.only i deps ⟨dst, .ext x' i', none⟩ tr) pend :: k) (.mk t h nx) = dnext P num fin (plan (lookT t) h nx (.ext x' i')) (rdOnly true (undep deps pend)) (pdOnly (undep deps pend)) dst tr k t h) ∧
  (∀ x', vc P num fin (.draw (.only i deps ⟨dst, .len x', none⟩ tr) pend :: k) (.mk t h nx) = dnext P num fin (plan (lookT t) h nx (.len x')) (rdOnly true (undep deps pend)) (pdOnly (undep deps pend)) dst tr k t h) ∧
  (∀ x', vc P num fin (.draw (.only i deps ⟨dst, .lenS x', none⟩ tr) pend :: k) (.mk t h nx) = dnext P num fin (plan (lookT t) h nx (.lenS x')) (rdOnly true (undep deps pend)) (pdOnly (undep deps pend)) dst tr k t h) ∧
  (∀ x' y', vc P num fin (.draw (.only i deps ⟨dst, .mx x' y', none⟩ tr) pend :: k) (.mk t h nx) = dnext P num fin (plan (lookT t) h nx (.mx x' y')) (rdOnly true (undep deps pend)) (pdOnly (undep deps pend)) dst tr k t h) ∧
  (∀ s' b' x' y', vc P num fin (.draw (.only i deps ⟨dst, .app s' b' x' y', none⟩ tr) pend :: k) (.mk t h nx) = dnext P num fin (plan (lookT t) h nx (.app s' b' x' y')) (rdOnly false (undep deps pend)) (pdOnly (undep deps pend)) dst tr k t h) :=
  ⟨fun _ => e_only i deps dst _ rfl tr pend k t h nx, fun _ _ _ => e_only i deps dst _ rfl tr pend k t h nx, fun _ => e_only i deps dst _ rfl tr pend k t h nx, fun _ => e_only i deps dst _ rfl tr pend k t h nx, fun _ _ => e_only i deps dst _ rfl tr pend k t h nx, fun _ _ _ => e_only i deps dst _ rfl tr pend k t h nx, fun _ _ _ => e_only i deps dst _ rfl tr pend k t h nx, fun _ _ _ => e_only i deps dst _ rfl tr pend k t h nx, fun _ => e_only i deps dst _ rfl tr pend k t h nx, fun _ _ _ => e_only i deps dst _ rfl tr pend k t h nx, fun _ _ _ _ => e_only i deps dst _ rfl tr pend k t h nx, fun _ _ _ => e_only i deps dst _ rfl tr pend k t h nx, fun _ => e_only i deps dst _ rfl tr pend k t h nx, fun _ _ => e_only i deps dst _ rfl tr pend k t h nx, fun _ _ => e_only i deps dst _ rfl tr pend k t h nx, fun _ => e_only i deps dst _ rfl tr pend k t h nx, fun _ _ _ _ => e_only i deps dst _ rfl tr pend k t h nx, fun _ _ _ _ => e_only i deps dst _ rfl tr pend k t h nx, fun _ _ _ => e_only i deps dst _ rfl tr pend k t h nx, fun _ _ => e_only i deps dst _ rfl tr pend k t h nx, fun _ _ _ _ => e_only i deps dst _ rfl tr pend k t h nx, fun _ _ _ => e_only i deps dst _ rfl tr pend k t h nx, fun _ _ => e_only i deps dst _ rfl tr pend k t h nx, fun _ _ => e_only i deps dst _ rfl tr pend k t h nx, fun _ => e_only i deps dst _ rfl tr pend k t h nx, fun _ => e_only i deps dst _ rfl tr pend k t h nx, fun _ _ => e_only i deps dst _ rfl tr pend k t h nx, fun _ _ _ _ => e_only i deps dst _ rfl tr pend k t h nx⟩

variable (P num fin) in
def dmaybe (v : AV) (want : Bool) (ka kb : List It) (dst : Option Nat) (t : List (Nat × AV)) (h : Heap) (nx : Nat) : Prop :=
  ∃ q, gv v q ∧ (q = some want → vc P num fin ka (.mk t h nx)) ∧ (q ≠ some want → vc P num fin kb (.mk (putD t dst (.tup [])) h nx))

theorem e_takeg (i : Nat) (dst : Option Nat) (op : MOp) (g : Nat) (want : Bool) (tr : DTree) (pend : List (Nat × List Nat)) (k : List It) (t : List (Nat × AV)) (h : Heap) (nx : Nat) :
    vc P num fin (.draw (.take i ⟨dst, op, some (g, want)⟩ tr) pend :: k) (.mk t h nx) = dmaybe P num fin (lookT t g) want (.draw (.take i ⟨dst, op, none⟩ tr) pend :: k) (.draw tr pend :: k) dst t h nx := by
  rw [vc]; rfl
theorem e_onlyg (i : Nat) (deps : List Nat) (dst : Option Nat) (op : MOp) (g : Nat) (want : Bool) (tr : DTree) (pend : List (Nat × List Nat)) (k : List It) (t : List (Nat × AV)) (h : Heap) (nx : Nat) :
    vc P num fin (.draw (.only i deps ⟨dst, op, some (g, want)⟩ tr) pend :: k) (.mk t h nx) = dmaybe P num fin (lookT t g) want (.draw (.only i deps ⟨dst, op, none⟩ tr) pend :: k) (.draw tr (undep deps pend) :: k) dst t h nx := by
  rw [vc]; rfl
theorem dmaybe_do (b : Bool) (ka kb : List It) (dst : Option Nat) (t : List (Nat × AV)) (h : Heap) (nx : Nat) : dmaybe P num fin (.bool b) b ka kb dst t h nx = vc P num fin ka (.mk t h nx) := by
  simp only [dmaybe, gv_bool, exists_eq_left, ne_eq, not_true_eq_false, false_implies, and_true, true_implies]
theorem dmaybe_tf (ka kb : List It) (dst : Option Nat) (t : List (Nat × AV)) (h : Heap) (nx : Nat) : dmaybe P num fin (.bool true) false ka kb dst t h nx = vc P num fin kb (.mk (putD t dst (.tup [])) h nx) := by
  simp [dmaybe, gv_bool]
theorem dmaybe_ft (ka kb : List It) (dst : Option Nat) (t : List (Nat × AV)) (h : Heap) (nx : Nat) : dmaybe P num fin (.bool false) true ka kb dst t h nx = vc P num fin kb (.mk (putD t dst (.tup [])) h nx) := by
  simp [dmaybe, gv_bool]
theorem dmaybe_skip (want : Bool) (ka kb : List It) (dst : Option Nat) (t : List (Nat × AV)) (h : Heap) (nx : Nat) : dmaybe P num fin (.tup []) want ka kb dst t h nx = vc P num fin kb (.mk (putD t dst (.tup [])) h nx) := by
  simp [dmaybe, gv_skip]
theorem dmaybe_intro {c want : Bool} {ka kb : List It} {dst : Option Nat} {t : List (Nat × AV)} {h : Heap} {nx : Nat} (h1 : c = want → vc P num fin ka (.mk t h nx)) (h2 : c ≠ want → vc P num fin kb (.mk (putD t dst (.tup [])) h nx)) :
    dmaybe P num fin (.bool c) want ka kb dst t h nx := ⟨some c, .inl ⟨c, rfl, rfl⟩, fun h => h1 (Option.some.inj h), fun h => h2 (fun h' => h (by rw [h']))⟩

/-- A loop, by what holds at its head. -/
theorem loop_intro {ι : Type} (I : ι → AS) (good : ι → Prop) (μ : ι → Nat) (i0 : ι) {a : MCode} {k : List It} {s : AS} (h0 : good i0) (hs : Sub s (I i0))
    (step : ∀ i, good i → vc P num fin (.code a :: .stop (back I good μ (μ i)) :: k) (I i)) : loops P num fin a k s := by
  unfold loops
  rw [vc]
  refine ⟨fun n s => ∃ i, s = I i ∧ good i ∧ μ i = n, μ i0, ⟨I i0, hs, i0, rfl, h0, rfl⟩, ?_⟩
  rintro n s ⟨i, rfl, hi, rfl⟩
  exact step i hi

end
end Go.Sep
