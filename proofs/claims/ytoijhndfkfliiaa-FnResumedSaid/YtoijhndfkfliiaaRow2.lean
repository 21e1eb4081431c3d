/- A law's parameter that is a slice of whole numbers, read by the kit. -/
import Derived.Test.YtoijhndfkfliiaaRow
namespace Go.Sep
set_option linter.unusedVariables false
set_option linter.unusedSimpArgs false

theorem rrows_ints {e : Env} {W : World} {b : Nat} : ∀ (l : List Int) (o : Nat), (∀ i, i < l.length → W.cell? ⟨b, o + i, none⟩ = some (.int .i64 (l.getD i 0))) → RRows e W b o 1 (ints l) []
  | [], o, _ => by simp [ints, RRows]
  | n :: l, o, h => by
    have h0 := h 0 (by simp)
    have ih := rrows_ints (e := e) l (o + 1) (fun i hi => by have := h (i + 1) (by simpa using hi); rw [show o + 1 + i = o + (i + 1) by omega]; simpa using this)
    simp only [ints, List.map_cons, RRows] at ih ⊢
    refine ⟨[.int .i64 n], [], [], ⟨rfl, rfl⟩, rfl, fun j hj => ?_, by simp [RVs, RV], ih, rfl⟩
    have hj0 : j = 0 := by omega
    subst hj0
    simpa using h0

theorem rv_ints {num : Nat → Nat} {W : World} {a : Option Addr} {len cap : Nat} {zs : List Int} (h : (a = none ∧ len = 0 ∧ cap = 0 ∧ zs = []) ∨ ∃ x, a = some x ∧ len ≤ cap ∧ zs.length = cap ∧ (∀ i, i < zs.length → W.cell? (x.add i) = some (.int .i64 (zs.getD i 0)))) :
    RV (entry num W) (.sl .bw 1 (ints (zs.take len))) (.slice a len cap) [] := by
  rcases h with ⟨rfl, rfl, rfl, rfl⟩ | ⟨x, rfl, h1, h2, h3⟩
  · simp only [RV, true_and]
    exact .inl ⟨rfl, none, 0, rfl, fun _ => rfl⟩
  · simp only [RV, true_and]
    by_cases hz : len = 0
    · subst hz
      exact .inl ⟨by simp [ints], some x, cap, rfl, by simp⟩
    · obtain ⟨b, o, sp⟩ := x
      have h0 := h3 0 (by omega)
      have hsp : sp = none := by
        cases sp with
        | none => rfl
        | some s => simp only [World.cell?, Addr.add] at h0; split at h0 <;> simp at h0
      subst hsp
      refine .inr ⟨b, o, cap, ?_, ?_, ?_, ?_⟩
      · simp [ints_length, Nat.min_eq_left (h2 ▸ h1)]
      · simp [ints_length]; omega
      · have hb : b < W.heap.size := by
          rcases Nat.lt_or_ge b W.heap.size with h | h
          · exact h
          · have hn := Array.getElem?_eq_none h
            simp [World.cell?, Addr.add, hn] at h0
        exact .inr hb
      · refine rrows_ints _ _ (fun i hi => ?_)
        have hi' : i < len := by simp at hi; omega
        have := h3 i (by omega)
        rw [add_mk] at this
        show W.cell? _ = _
        rw [this]
        simp [List.getD_eq_getElem?_getD, hi']

end Go.Sep
