/- What a caller hands to a call: views of its rows; and what it gets back. -/
import Derived.Test.YtoijhndfkfliiaaEnter2
namespace Go.Sep
set_option linter.unusedVariables false
set_option linter.unusedSimpArgs false

mutual
/-- No names, nothing borrowed. -/
def nb : AV → Prop
  | .ptr _ _ _ | .ns _ _ _ => False
  | .sl .bw _ _ => False
  | .sl _ _ rows => nbr rows
  | .fptr .fz cells _ => nbs cells
  | .fptr _ _ _ => False
  | .agg cs => nbs cs
  | .tup cs => nbs cs
  | .fn _ cap => nbs cap
  | _ => True
def nbs : List AV → Prop
  | [] => True
  | c :: cs => nb c ∧ nbs cs
def nbr : List (List AV) → Prop
  | [] => True
  | r :: rs => nbs r ∧ nbr rs
end

mutual
/-- Lent: whatever it was, nobody writes it now. -/
def bwC : AV → AV
  | .sl _ sz rows => .sl .bw sz (bwR rows)
  | .fptr _ cells f => .fptr .bw (bwL cells) f
  | .agg cs => .agg (bwL cs)
  | .tup cs => .tup (bwL cs)
  | .fn f cap => .fn f (bwL cap)
  | v => v
def bwL : List AV → List AV
  | [] => []
  | c :: cs => bwC c :: bwL cs
def bwR : List (List AV) → List (List AV)
  | [] => []
  | r :: rs => bwL r :: bwR rs
end

theorem bwL_length : ∀ l : List AV, (bwL l).length = l.length
  | [] => rfl
  | c :: cs => by simp [bwL, bwL_length cs]
theorem bwR_length : ∀ l : List (List AV), (bwR l).length = l.length
  | [] => rfl
  | c :: cs => by simp [bwR, bwR_length cs]
theorem bwL_ok : ∀ l : List AV, l.all cellOk = true → (bwL l).all cellOk = true
  | [], _ => rfl
  | c :: cs, h => by
    simp only [List.all_cons, Bool.and_eq_true, bwL] at h ⊢
    refine ⟨?_, bwL_ok cs h.2⟩
    have := h.1
    cases c <;> simp_all [bwC, cellOk]

/-- e' tells of all frozen things that e tells of. -/
structure Sees (e e' : Env) : Prop where
  num : e'.num = e.num
  fr : ∀ b, e.Fr b → e'.Fr b
  cells : ∀ b, e.Fr b → ∀ o, e'.w0.cell? ⟨b, o, none⟩ = e.w0.cell? ⟨b, o, none⟩

mutual
theorem RV_nb {e e' : Env} (hs : Sees e e') : ∀ (v : AV) {c : Value} {L : List Nat}, (∀ b ∈ L, e'.w.heap[b]? = e.w.heap[b]?) → nb v → RV e v c L → RV e' v c L
  | .any, _, _, _, _, h | .int .., _, _, _, _, h | .bool .., _, _, _, _, h | .str .., _, _, _, _, h | .nilp, _, _, _, _, h | .nil, _, _, _, _, h | .nilI, _, _, _, _, h | .ifc, _, _, _, _, h => h
  | .fn f cap, _, _, k, hb, h => by
    simp only [RV] at h ⊢
    obtain ⟨vs, h1, h2, h3⟩ := h
    exact ⟨vs, by rw [hs.num]; exact h1, RVs_nb hs cap k hb h2, h3⟩
  | .ptr .., _, _, _, hb, _ => by simp [nb] at hb
  | .ns .., _, _, _, hb, _ => by simp [nb] at hb
  | .fptr .own _ _, _, _, _, hb, _ => by simp [nb] at hb
  | .fptr .bw _ _, _, _, _, hb, _ => by simp [nb] at hb
  | .fptr .fz cells f, _, _, k, hb, h => by
    simp only [RV] at h ⊢
    obtain ⟨h0, b, o, vs, h1, h2, h3, h4, h5⟩ := h
    subst h0
    have h2' : e.Fr b := h2
    exact ⟨rfl, b, o, vs, h1, hs.fr b h2', h3, fun j hj => by rw [hs.cells b h2']; exact h4 j hj, RVs_nb hs cells k (by simpa [nb] using hb) h5⟩
  | .sl .bw _ _, _, _, _, hb, _ => by simp [nb] at hb
  | .sl .own sz rows, _, _, k, hb, h => by
    simp only [RV] at h ⊢
    rcases h with h | ⟨p, Lr, h0, h1, h2, h3, h4⟩
    · exact .inl h
    · subst h4
      exact .inr ⟨p, Lr, h0, h1, h2.keep (k _ (by simp)), RRows_nb hs rows (fun b hb => k b (by simp [hb])) (by simpa [nb] using hb) (fun o' => cell_of_heap (k _ (by simp)) o') h3, rfl⟩
  | .sl .fz sz rows, _, _, k, hb, h => by
    simp only [RV] at h ⊢
    obtain ⟨h0, h⟩ := h
    subst h0
    refine ⟨rfl, ?_⟩
    rcases h with h | ⟨b, o, c, h1, h2, h3, h4⟩
    · exact .inl h
    · have h3' : e.Fr b := h3
      exact .inr ⟨b, o, c, h1, h2, hs.fr b h3', RRows_nb hs rows k (by simpa [nb] using hb) (fun o' => hs.cells b h3' o') h4⟩
  | .agg cs, _, _, k, hb, h => by
    simp only [RV] at h ⊢
    obtain ⟨vs, h1, h2⟩ := h
    exact ⟨vs, h1, RVs_nb hs cs k hb h2⟩
  | .tup cs, _, _, k, hb, h => by
    simp only [RV] at h ⊢
    obtain ⟨vs, h1, h2⟩ := h
    exact ⟨vs, h1, RVs_nb hs cs k hb h2⟩
theorem RVs_nb {e e' : Env} (hs : Sees e e') : ∀ (l : List AV) {cs : List Value} {L : List Nat}, (∀ b ∈ L, e'.w.heap[b]? = e.w.heap[b]?) → nbs l → RVs e l cs L → RVs e' l cs L
  | [], _, _, _, _, h => by simpa only [RVs] using h
  | c :: cs, _, _, k, hb, h => by
    simp only [RVs] at h ⊢
    obtain ⟨v, vs', L1, L2, h1, h2, h3, h4⟩ := h
    subst h4
    exact ⟨v, vs', L1, L2, h1, RV_nb hs c (fun b hb => k b (by simp [hb])) hb.1 h2, RVs_nb hs cs (fun b hb => k b (by simp [hb])) hb.2 h3, rfl⟩
theorem RRows_nb {e e' : Env} (hs : Sees e e') : ∀ (rs : List (List AV)) {W W' : World} {b o sz : Nat} {L : List Nat}, (∀ b ∈ L, e'.w.heap[b]? = e.w.heap[b]?) → nbr rs →
    (∀ o', W'.cell? ⟨b, o', none⟩ = W.cell? ⟨b, o', none⟩) → RRows e W b o sz rs L → RRows e' W' b o sz rs L
  | [], _, _, _, _, _, _, _, _, _, h => by simpa only [RRows] using h
  | r :: rs, W, W', b, o, sz, L, k, hb, hW, h => by
    simp only [RRows] at h ⊢
    obtain ⟨vs, L1, L2, h1, h2, h3, h4, h5, h6⟩ := h
    subst h6
    exact ⟨vs, L1, L2, h1, h2, fun j hj => by rw [hW]; exact h3 j hj, RVs_nb hs r (fun b hb => k b (by simp [hb])) hb.1 h4, RRows_nb hs rs (fun b hb => k b (by simp [hb])) hb.2 hW h5, rfl⟩
end

/-- e' is where a callee begins that e calls: the blocks V are lent. -/
structure Lends (e e' : Env) (V : Nat → Prop) : Prop where
  num : e'.num = e.num
  w0 : e'.w0 = e.w
  fr : ∀ b, e.Fr b → e'.Fr b
  bo : ∀ b, e.Fr b ∨ e.Bo b ∨ V b → e'.Fr b ∨ e'.Bo b
  cells : ∀ b, e.Fr b ∨ e.Bo b → ∀ o, e.w.cell? ⟨b, o, none⟩ = e.w0.cell? ⟨b, o, none⟩

mutual
theorem RV_bw {e e' : Env} {V : Nat → Prop} (hs : Lends e e' V) : ∀ (v : AV) {c : Value} {L : List Nat}, (∀ b ∈ L, V b) → bnd (fun _ => False) v → RV e v c L → RV e' (bwC v) c []
  | .any, _, _, _, _, h => by simp [bwC, RV]
  | .int .., _, _, _, _, h | .bool .., _, _, _, _, h | .str .., _, _, _, _, h | .nilp, _, _, _, _, h | .nil, _, _, _, _, h | .nilI, _, _, _, _, h | .ifc, _, _, _, _, h => by
    simp only [bwC, RV] at h ⊢
    exact ⟨h.1, trivial⟩
  | .fn f cap, _, _, k, hb, h => by
    simp only [RV, bwC] at h ⊢
    obtain ⟨vs, h1, h2, h3⟩ := h
    subst h3
    exact ⟨vs, by rw [hs.num]; exact h1, RVs_bw hs cap k hb h2, trivial⟩
  | .ptr .., _, _, _, hb, _ => by simp [bnd] at hb
  | .ns .., _, _, _, hb, _ => by simp [bnd] at hb
  | .fptr m cells f, _, _, k, hb, h => by
    simp only [RV, bwC] at h ⊢
    obtain ⟨h0, b, o, vs, h1, h2, h3, h4, h5⟩ := h
    subst h0
    have h2' := Env.frozen_or h2
    refine ⟨trivial, b, o, vs, h1, hs.bo b (h2'.imp id .inl), by rw [bwL_length]; exact h3, fun j hj => ?_, RVs_bw hs cells (by simp) hb h5⟩
    rw [hs.w0, hs.cells b h2']
    exact h4 j (by rw [bwL_length] at hj; exact hj)
  | .sl .own sz rows, _, _, k, hb, h => by
    simp only [RV, bwC] at h ⊢
    refine ⟨trivial, ?_⟩
    rcases h with ⟨rfl, _, a, rfl⟩ | ⟨p, Lr, ⟨rfl, h0⟩, rfl, h2, h3, rfl⟩
    · exact .inl ⟨rfl, a, 0, rfl, fun _ => rfl⟩
    · refine .inr ⟨p.block, p.off, p.cap, by rw [bwR_length], by rw [bwR_length]; exact h2.2.1, hs.bo _ (.inr (.inr (k _ (by simp)))), ?_⟩
      exact RRows_bw hs rows (fun b hb => k b (by simp [hb])) hb (fun o' => by rw [hs.w0]) h3
  | .sl .bw sz rows, _, _, k, hb, h => by
    simp only [RV, bwC] at h ⊢
    refine ⟨trivial, ?_⟩
    rcases h with ⟨rfl, ⟨rfl, h⟩ | ⟨b, o, c, rfl, h2, h3, h4⟩⟩
    · exact .inl ⟨rfl, h⟩
    · have h3' := Env.frozen_or h3
      exact .inr ⟨b, o, c, by rw [bwR_length], by rw [bwR_length]; exact h2, hs.bo b (h3'.imp id .inl), RRows_bw hs rows (by simp) hb (fun o' => by rw [hs.w0, hs.cells b h3']) h4⟩
  | .sl .fz sz rows, _, _, k, hb, h => by
    simp only [RV, bwC] at h ⊢
    refine ⟨trivial, ?_⟩
    rcases h with ⟨rfl, ⟨rfl, h⟩ | ⟨b, o, c, rfl, h2, h3, h4⟩⟩
    · exact .inl ⟨rfl, h⟩
    · have h3' := Env.frozen_or h3
      exact .inr ⟨b, o, c, by rw [bwR_length], by rw [bwR_length]; exact h2, hs.bo b (h3'.imp id .inl), RRows_bw hs rows (by simp) hb (fun o' => by rw [hs.w0, hs.cells b h3']) h4⟩
  | .agg cs, _, _, k, hb, h => by
    simp only [RV, bwC] at h ⊢
    obtain ⟨vs, h1, h2⟩ := h
    exact ⟨vs, h1, RVs_bw hs cs k hb h2⟩
  | .tup cs, _, _, k, hb, h => by
    simp only [RV, bwC] at h ⊢
    obtain ⟨vs, h1, h2⟩ := h
    exact ⟨vs, h1, RVs_bw hs cs k hb h2⟩
theorem RVs_bw {e e' : Env} {V : Nat → Prop} (hs : Lends e e' V) : ∀ (l : List AV) {cs : List Value} {L : List Nat}, (∀ b ∈ L, V b) → bnds (fun _ => False) l → RVs e l cs L → RVs e' (bwL l) cs []
  | [], _, _, _, _, h => by
    simp only [RVs, bwL] at h ⊢
    exact ⟨h.1, trivial⟩
  | c :: cs, _, _, k, hb, h => by
    simp only [RVs, bwL] at h ⊢
    obtain ⟨v, vs', L1, L2, h1, h2, h3, h4⟩ := h
    subst h4
    exact ⟨v, vs', [], [], h1, RV_bw hs c (fun b hb => k b (by simp [hb])) hb.1 h2, RVs_bw hs cs (fun b hb => k b (by simp [hb])) hb.2 h3, rfl⟩
theorem RRows_bw {e e' : Env} {V : Nat → Prop} (hs : Lends e e' V) : ∀ (rs : List (List AV)) {W W' : World} {b o sz : Nat} {L : List Nat}, (∀ b ∈ L, V b) → bndr (fun _ => False) rs →
    (∀ o', W'.cell? ⟨b, o', none⟩ = W.cell? ⟨b, o', none⟩) → RRows e W b o sz rs L → RRows e' W' b o sz (bwR rs) []
  | [], _, _, _, _, _, _, _, _, _, h => by simp [bwR, RRows]
  | r :: rs, W, W', b, o, sz, L, k, hb, hW, h => by
    simp only [RRows, bwR] at h ⊢
    obtain ⟨vs, L1, L2, h1, h2, h3, h4, h5, h6⟩ := h
    subst h6
    exact ⟨vs, [], [], ⟨by rw [bwL_length]; exact h1.1, bwL_ok r h1.2⟩, h2, fun j hj => by rw [hW]; exact h3 j hj, RVs_bw hs r (fun b hb => k b (by simp [hb])) hb.1 h4, RRows_bw hs rs (fun b hb => k b (by simp [hb])) hb.2 hW h5, rfl⟩
end

mutual
theorem nb_bnd {A : Nat → Prop} : ∀ (v : AV), nb v → bnd A v
  | .any, _ | .int .., _ | .bool .., _ | .str .., _ | .nilp, _ | .nil, _ | .nilI, _ | .ifc, _ => trivial
  | .fn f cap, h => nbs_bnd cap h
  | .ptr .., h => by simp [nb] at h
  | .ns .., h => by simp [nb] at h
  | .fptr .own _ _, h => by simp [nb] at h
  | .fptr .bw _ _, h => by simp [nb] at h
  | .fptr .fz cells _, h => nbs_bnd cells (by simpa [nb] using h)
  | .sl .bw _ _, h => by simp [nb] at h
  | .sl .own _ rows, h => nbr_bnd rows (by simpa [nb] using h)
  | .sl .fz _ rows, h => nbr_bnd rows (by simpa [nb] using h)
  | .agg cs, h => nbs_bnd cs h
  | .tup cs, h => nbs_bnd cs h
theorem nbs_bnd {A : Nat → Prop} : ∀ (l : List AV), nbs l → bnds A l
  | [], _ => trivial
  | c :: cs, h => ⟨nb_bnd c h.1, nbs_bnd cs h.2⟩
theorem nbr_bnd {A : Nat → Prop} : ∀ (l : List (List AV)), nbr l → bndr A l
  | [], _ => trivial
  | c :: cs, h => ⟨nbs_bnd c h.1, nbr_bnd cs h.2⟩
end

mutual
/-- Slices of our own that come back get names. -/
def openV : Nat → AV → AV × List (Nat × Row) × Nat
  | n, .sl .own sz rows => (.ns n 0 rows.length, [(n, (sz, rows))], n + 1)
  | n, .agg cs => (.agg (openVs n cs).1, (openVs n cs).2.1, (openVs n cs).2.2)
  | n, .tup cs => (.tup (openVs n cs).1, (openVs n cs).2.1, (openVs n cs).2.2)
  | n, v => (v, [], n)
def openVs : Nat → List AV → List AV × List (Nat × Row) × Nat
  | n, [] => ([], [], n)
  | n, v :: l => ((openV n v).1 :: (openVs (openV n v).2.2 l).1, (openV n v).2.1 ++ (openVs (openV n v).2.2 l).2.1, (openVs (openV n v).2.2 l).2.2)
end

end Go.Sep
