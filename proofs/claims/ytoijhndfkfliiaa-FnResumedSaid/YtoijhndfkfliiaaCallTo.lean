/- A call, seen by the caller: out of the callee's contract. -/
import Derived.Test.YtoijhndfkfliiaaOpen
namespace Go.Sep
set_option linter.unusedVariables false
set_option linter.unusedSimpArgs false

/-- The callee's names, by the caller's. -/
def rnm : List (Nat × Nat) → Nat → Nat
  | [], _ => 0
  | (a, b) :: σ, k => if k = a then b else rnm σ k

mutual
def renV (f : Nat → Nat) : AV → AV
  | .ptr nm i o => .ptr (f nm) i o
  | .ns nm o l => .ns (f nm) o l
  | .agg cs => .agg (renL f cs)
  | .tup cs => .tup (renL f cs)
  | v => v
def renL (f : Nat → Nat) : List AV → List AV
  | [] => []
  | c :: cs => renV f c :: renL f cs
end

mutual
/-- May be handed over by name: names that are known, or no names at all. -/
def okV (A : Nat → Prop) : AV → Prop
  | .ptr nm _ _ => A nm
  | .ns nm _ _ => A nm
  | .agg cs => okL A cs
  | .tup cs => okL A cs
  | .any => True
  | v => nb v
def okL (A : Nat → Prop) : List AV → Prop
  | [] => True
  | c :: cs => okV A c ∧ okL A cs
end

mutual
/-- A view of what is lent. -/
def bwT (h : Heap) : AV → AV
  | .ns nm off len => (match look h nm with | some row => .sl .bw row.1 (bwR ((row.2.drop off).take len)) | none => .any)
  | .ptr nm i f => (match look h nm with | some row => .fptr .bw (bwL (row.2.getD i [])) f | none => .any)
  | .agg cs => .agg (bwTs h cs)
  | .tup cs => .tup (bwTs h cs)
  | v => bwC v
def bwTs (h : Heap) : List AV → List AV
  | [] => []
  | c :: cs => bwT h c :: bwTs h cs
end

mutual
def bwOk (h : Heap) (F : Nat → Prop) : AV → Prop
  | .ns nm off len => ∃ row, look h nm = some row ∧ off + len ≤ row.2.length ∧ ¬ F nm ∧ bndr (fun _ => False) row.2
  | .ptr nm i f => ∃ row, look h nm = some row ∧ i < row.2.length ∧ ¬ F nm ∧ bndr (fun _ => False) row.2
  | .agg cs => bwOks h F cs
  | .tup cs => bwOks h F cs
  | v => bnd (fun _ => False) v
def bwOks (h : Heap) (F : Nat → Prop) : List AV → Prop
  | [] => True
  | c :: cs => bwOk h F c ∧ bwOks h F cs
end

theorem RRows_mid {e : Env} {W : World} {b o' sz : Nat} {rows : List (List AV)} {L : List Nat} (l n : Nat) (hl : l + n ≤ rows.length) (h : RRows e W b o' sz rows L) :
    ∃ M, (∀ x ∈ M, x ∈ L) ∧ RRows e W b (o' + l * sz) sz ((rows.drop l).take n) M := by
  have h0 : rows = rows.take l ++ ((rows.drop l).take n ++ rows.drop (l + n)) := by
    rw [← List.drop_drop, List.take_append_drop, List.take_append_drop]
  rw [h0] at h
  obtain ⟨M1, M2, _, h2, rfl⟩ := (RRows_append _ _).1 h
  obtain ⟨M3, M4, h3, _, rfl⟩ := (RRows_append _ _).1 h2
  rw [List.length_take, Nat.min_eq_left (by omega)] at h3
  exact ⟨M3, fun x hx => by simp [hx], h3⟩

section
variable {e e' : Env} {V : Nat → Prop} {h : Heap} {Lf : Nat → List Nat} {F : Nat → Prop}

mutual
theorem bwT_ok (hs : Lends e e' V) (hr : RH e (look h) Lf) (hV : ∀ nm, look h nm ≠ none → ¬ F nm → ∀ b ∈ Lf nm, V b) : ∀ (v : AV) {c : Value}, bwOk h F v → RV e v c [] → RV e' (bwT h v) c []
  | .ns nm off len, c, hk, hv => by
    simp only [bwOk] at hk
    obtain ⟨row, h1, h2, h3, h4⟩ := hk
    simp only [bwT, h1]
    have hV' := hV nm (by simp [h1]) h3
    rcases ns_at (hr.row nm row h1) hv with ⟨_, q1, rfl, rfl, aa, rfl⟩ | ⟨q, A, Lr, hq, q1, q2, q3, q4, q5, rfl, q7⟩
    · simp only [RV, q1, List.drop_nil, List.take_nil, bwR, true_and]
      exact .inl ⟨aa, 0, rfl, fun _ => rfl⟩
    · simp only [RV, true_and]
      by_cases hz : len = 0
      · subst hz
        exact .inl ⟨by simp [bwR], some A, _, rfl, by simp⟩
      · refine .inr ⟨q.block, q.off + off * q.sz, q.cap - off, ?_, ?_, ?_, ?_⟩
        · rw [q7 (by omega), bwR_length]
          congr 1
          simp
          omega
        · rw [bwR_length]
          simp
          omega
        · exact hs.bo _ (.inr (.inr (hV' _ (by rw [q4]; simp))))
        · obtain ⟨M, m1, m2⟩ := RRows_mid off len h2 q3
          rw [← q1]
          exact RRows_bw hs _ (fun b hb => hV' b (by rw [q4]; simp [m1 b hb])) (bndr_take (bndr_drop h4 _) _) (fun o' => by rw [hs.w0]) m2
  | .ptr nm i f, c, hk, hv => by
    simp only [bwOk] at hk
    obtain ⟨row, h1, h2, h3, h4⟩ := hk
    simp only [bwT, h1]
    have hV' := hV nm (by simp [h1]) h3
    have hrow := hr.row nm row h1
    obtain ⟨p, hp, rfl⟩ := ptr_at hrow hv
    unfold RowAt RowSp at hrow
    rw [hp] at hrow
    obtain ⟨e1, e2, Lr, e3, e4⟩ := hrow
    obtain ⟨vs, L1, L2, L3, g1, g2, g3, g4, _, _, g7⟩ := RRows_split i h2 e3
    simp only [RV, true_and]
    have hgd : row.2.getD i [] = row.2[i] := getD_get h2
    refine ⟨p.block, p.off + i * p.sz, vs, rfl, hs.bo _ (.inr (.inr (hV' _ (by rw [e4]; simp)))), ?_, ?_, ?_⟩
    · rw [bwL_length, hgd, g1.1, g2]
    · intro j hj
      rw [bwL_length, hgd, g1.1] at hj
      rw [hs.w0]
      exact g3 j hj
    · rw [hgd]
      exact RVs_bw hs _ (fun b hb => hV' b (by rw [e4, g7]; simp [hb])) (bndr_iff.1 h4 _ (List.getElem_mem h2)) g4
  | .agg cs, c, hk, hv => by
    simp only [bwOk, bwT, RV] at hk hv ⊢
    obtain ⟨vs, h1, h2⟩ := hv
    exact ⟨vs, h1, bwTs_ok hs hr hV cs hk h2⟩
  | .tup cs, c, hk, hv => by
    simp only [bwOk, bwT, RV] at hk hv ⊢
    obtain ⟨vs, h1, h2⟩ := hv
    exact ⟨vs, h1, bwTs_ok hs hr hV cs hk h2⟩
  | .any, c, hk, hv | .int _ _, c, hk, hv | .bool _, c, hk, hv | .str _, c, hk, hv | .fn _ _, c, hk, hv | .nilp, c, hk, hv | .fptr _ _ _, c, hk, hv | .nil, c, hk, hv | .nilI, c, hk, hv | .ifc, c, hk, hv | .sl _ _ _, c, hk, hv => by
    simp only [bwOk] at hk
    simp only [bwT]
    exact RV_bw hs _ (by simp) hk hv
theorem bwTs_ok (hs : Lends e e' V) (hr : RH e (look h) Lf) (hV : ∀ nm, look h nm ≠ none → ¬ F nm → ∀ b ∈ Lf nm, V b) : ∀ (l : List AV) {cs : List Value}, bwOks h F l → RVs e l cs [] → RVs e' (bwTs h l) cs []
  | [], cs, _, hv => by simpa only [RVs, bwTs] using hv
  | v :: l, cs, hk, hv => by
    simp only [bwOks, bwTs, RVs] at hk hv ⊢
    obtain ⟨c, cs', L1, L2, h1, h2, h3, h4⟩ := hv
    have hL1 : L1 = [] := (nil_of_append h4).1
    have hL2 : L2 = [] := (nil_of_append h4).2
    subst hL1 hL2
    exact ⟨c, cs', [], [], h1, bwT_ok hs hr hV v hk.1 h2, bwTs_ok hs hr hV l hk.2 h3, rfl⟩
end

mutual
theorem renV_ok {A : Nat → Prop} {f : Nat → Nat} (hs : Sees e e') (hφ : ∀ n, A n → e'.φ (f n) = e.φ n) : ∀ (v : AV) {c : Value} {L : List Nat}, (∀ b ∈ L, e'.w.heap[b]? = e.w.heap[b]?) → okV A v → RV e v c L → RV e' (renV f v) c L
  | .ptr nm i o, c, L, hk, ha, h => by
    simp only [okV, renV, RV] at ha h ⊢
    rw [hφ nm ha]
    exact h
  | .ns nm o l, c, L, hk, ha, h => by
    simp only [okV, renV, RV] at ha h ⊢
    rw [hφ nm ha]
    exact h
  | .agg cs, c, L, hk, ha, h => by
    simp only [okV, renV, RV] at ha h ⊢
    obtain ⟨vs, h1, h2⟩ := h
    exact ⟨vs, h1, renL_ok hs hφ cs hk ha h2⟩
  | .tup cs, c, L, hk, ha, h => by
    simp only [okV, renV, RV] at ha h ⊢
    obtain ⟨vs, h1, h2⟩ := h
    exact ⟨vs, h1, renL_ok hs hφ cs hk ha h2⟩
  | .any, c, L, hk, ha, h => by simpa only [renV, RV] using h
  | .int _ _, c, L, hk, ha, h | .bool _, c, L, hk, ha, h | .str _, c, L, hk, ha, h | .fn _ _, c, L, hk, ha, h | .nilp, c, L, hk, ha, h | .fptr _ _ _, c, L, hk, ha, h | .nil, c, L, hk, ha, h | .nilI, c, L, hk, ha, h
  | .ifc, c, L, hk, ha, h | .sl _ _ _, c, L, hk, ha, h => by
    simp only [okV] at ha
    simp only [renV]
    exact RV_nb hs _ hk ha h
theorem renL_ok {A : Nat → Prop} {f : Nat → Nat} (hs : Sees e e') (hφ : ∀ n, A n → e'.φ (f n) = e.φ n) : ∀ (l : List AV) {cs : List Value} {L : List Nat}, (∀ b ∈ L, e'.w.heap[b]? = e.w.heap[b]?) → okL A l → RVs e l cs L → RVs e' (renL f l) cs L
  | [], cs, L, _, _, h => by simpa only [RVs, renL] using h
  | v :: l, cs, L, hk, ha, h => by
    simp only [okL, renL, RVs] at ha h ⊢
    obtain ⟨c, cs', L1, L2, h1, h2, h3, h4⟩ := h
    subst h4
    exact ⟨c, cs', L1, L2, h1, renV_ok hs hφ v (fun b hb => hk b (by simp [hb])) ha.1 h2, renL_ok hs hφ l (fun b hb => hk b (by simp [hb])) ha.2 h3, rfl⟩
end

end

mutual
theorem renV_bnd {A B : Nat → Prop} {f : Nat → Nat} (hf : ∀ n, A n → B (f n)) : ∀ (v : AV), okV A v → bnd B (renV f v)
  | .ptr nm i o, h => hf nm h
  | .ns nm o l, h => hf nm h
  | .agg cs, h => by simp only [okV, renV] at h ⊢; exact renL_bnd hf cs h
  | .tup cs, h => by simp only [okV, renV] at h ⊢; exact renL_bnd hf cs h
  | .any, _ => trivial
  | .int _ _, h | .bool _, h | .str _, h | .fn _ _, h | .nilp, h | .fptr _ _ _, h | .nil, h | .nilI, h | .ifc, h | .sl _ _ _, h => by
    simp only [okV] at h
    simp only [renV]
    exact nb_bnd _ h
theorem renL_bnd {A B : Nat → Prop} {f : Nat → Nat} (hf : ∀ n, A n → B (f n)) : ∀ (l : List AV), okL A l → bnds B (renL f l)
  | [], _ => trivial
  | v :: l, h => ⟨renV_bnd hf v h.1, renL_bnd hf l h.2⟩
end

end Go.Sep
