/- Slices of our own that come back get names. -/
import Derived.Test.YtoijhndfkfliiaaView
namespace Go.Sep
set_option linter.unusedVariables false
set_option linter.unusedSimpArgs false

theorem openV_free (n : Nat) (v : AV) (h1 : ∀ sz rows, v ≠ .sl .own sz rows) (h2 : ∀ cs, v ≠ .agg cs) (h3 : ∀ cs, v ≠ .tup cs) : openV n v = (v, [], n) := by
  cases v
  case sl m sz rows =>
    cases m
    · exact absurd rfl (h1 _ _)
    all_goals simp [openV]
  case agg cs => exact absurd rfl (h2 _)
  case tup cs => exact absurd rfl (h3 _)
  all_goals simp [openV]

theorem RV_free {e : Env} {v : AV} {c : Value} {L : List Nat} (h1 : ∀ sz rows, v ≠ .sl .own sz rows) (h2 : ∀ cs, v ≠ .agg cs) (h3 : ∀ cs, v ≠ .tup cs) (h : RV e v c L) : L = [] := by
  cases v
  case any => simpa [RV] using h
  case agg cs => exact absurd rfl (h2 _)
  case tup cs => exact absurd rfl (h3 _)
  case sl m sz rows =>
    cases m
    · exact absurd rfl (h1 _ _)
    all_goals simp only [RV] at h; exact h.1
  case fn => simp only [RV] at h; obtain ⟨_, _, _, h⟩ := h; exact h
  all_goals simp only [RV] at h
  case ptr => exact h.1
  case fptr => exact h.1
  case ns => exact h.1
  all_goals exact h.2

mutual
theorem openV_le : ∀ (v : AV) (n : Nat), n ≤ (openV n v).2.2 ∧ ∀ x ∈ (openV n v).2.1, n ≤ x.1 ∧ x.1 < (openV n v).2.2
  | .sl .own sz rows, n => by simp [openV]
  | .agg cs, n => by simp only [openV]; exact openVs_le cs n
  | .tup cs, n => by simp only [openV]; exact openVs_le cs n
  | .any, n | .int _ _, n | .bool _, n | .str _, n | .fn _ _, n | .nilp, n | .ptr _ _ _, n | .fptr _ _ _, n | .nil, n | .nilI, n | .ifc, n | .ns _ _ _, n | .sl .bw _ _, n | .sl .fz _ _, n => by simp [openV]
theorem openVs_le : ∀ (l : List AV) (n : Nat), n ≤ (openVs n l).2.2 ∧ ∀ x ∈ (openVs n l).2.1, n ≤ x.1 ∧ x.1 < (openVs n l).2.2
  | [], n => by simp [openVs]
  | v :: l, n => by
    obtain ⟨a1, a2⟩ := openV_le v n
    obtain ⟨b1, b2⟩ := openVs_le l (openV n v).2.2
    simp only [openVs]
    refine ⟨by omega, fun x hx => ?_⟩
    rcases List.mem_append.1 hx with hx | hx
    · have := a2 x hx; omega
    · have := b2 x hx; omega
end

mutual
theorem openV_nodup : ∀ (v : AV) (n : Nat), ((openV n v).2.1.map (·.1)).Nodup
  | .sl .own sz rows, n => by simp [openV]
  | .agg cs, n => by simp only [openV]; exact openVs_nodup cs n
  | .tup cs, n => by simp only [openV]; exact openVs_nodup cs n
  | .any, n | .int _ _, n | .bool _, n | .str _, n | .fn _ _, n | .nilp, n | .ptr _ _ _, n | .fptr _ _ _, n | .nil, n | .nilI, n | .ifc, n | .ns _ _ _, n | .sl .bw _ _, n | .sl .fz _ _, n => by simp [openV]
theorem openVs_nodup : ∀ (l : List AV) (n : Nat), ((openVs n l).2.1.map (·.1)).Nodup
  | [], n => by simp [openVs]
  | v :: l, n => by
    simp only [openVs, List.map_append]
    refine List.nodup_append.2 ⟨openV_nodup v n, openVs_nodup l _, ?_⟩
    intro x hx y hy hxy
    obtain ⟨x', hx', rfl⟩ := List.mem_map.1 hx
    obtain ⟨y', hy', rfl⟩ := List.mem_map.1 hy
    have := (openV_le v n).2 x' hx'
    have := (openVs_le l (openV n v).2.2).2 y' hy'
    omega
end

mutual
theorem openV_bnd : ∀ (v : AV) (n : Nat), bnd (· < n) v → bnd (· < (openV n v).2.2) (openV n v).1 ∧ ∀ x ∈ (openV n v).2.1, bndr (· < (openV n v).2.2) x.2.2
  | .sl .own sz rows, n, h => by
    simp only [openV, List.mem_singleton]
    refine ⟨Nat.lt_succ_self n, ?_⟩
    rintro x rfl
    exact bndr_mono (fun k hk => Nat.lt_succ_of_lt hk) rows h
  | .agg cs, n, h => by simp only [openV]; exact openVs_bnd cs n h
  | .tup cs, n, h => by simp only [openV]; exact openVs_bnd cs n h
  | .any, n, h | .int _ _, n, h | .bool _, n, h | .str _, n, h | .fn _ _, n, h | .nilp, n, h | .ptr _ _ _, n, h | .fptr _ _ _, n, h | .nil, n, h | .nilI, n, h | .ifc, n, h | .ns _ _ _, n, h | .sl .bw _ _, n, h | .sl .fz _ _, n, h => by
    simp only [openV]
    exact ⟨h, by simp⟩
theorem openVs_bnd : ∀ (l : List AV) (n : Nat), bnds (· < n) l → bnds (· < (openVs n l).2.2) (openVs n l).1 ∧ ∀ x ∈ (openVs n l).2.1, bndr (· < (openVs n l).2.2) x.2.2
  | [], n, h => by simp [openVs, bnds]
  | v :: l, n, h => by
    obtain ⟨a1, a2⟩ := openV_bnd v n h.1
    have hle := (openV_le v n).1
    have hle2 := (openVs_le l (openV n v).2.2).1
    obtain ⟨b1, b2⟩ := openVs_bnd l (openV n v).2.2 (bnds_mono (fun k hk => Nat.lt_of_lt_of_le hk hle) l h.2)
    have mono : ∀ k, k < (openV n v).2.2 → k < (openVs (openV n v).2.2 l).2.2 := fun k hk => Nat.lt_of_lt_of_le hk hle2
    simp only [openVs, bnds]
    refine ⟨⟨bnd_mono mono _ a1, b1⟩, fun x hx => ?_⟩
    rcases List.mem_append.1 hx with hx | hx
    · exact bndr_mono mono _ (a2 x hx)
    · exact b2 x hx
end

/-- Opened: which place and which blocks each new name has. -/
def Opened (e : Env) (A : Nat → Prop) (L : List Nat) (fr : List (Nat × Row)) (ok : Env → Prop) : Prop :=
  ∃ S : List (Nat × Spot × List Nat), S.map (·.1) = fr.map (·.1) ∧ L = S.flatMap (·.2.2) ∧
    ∀ e', (∀ x ∈ S, e'.φ x.1 = x.2.1) → Keeps e e' A L → ok e' ∧ ∀ x ∈ S, ∀ row, (x.1, row) ∈ fr → RowSp e' x.2.1 row x.2.2

mutual
theorem openV_ok {e : Env} {A : Nat → Prop} : ∀ (v : AV) (n : Nat) {c : Value} {L : List Nat}, bnd A v → RV e v c L → Opened e A L (openV n v).2.1 (fun e' => RV e' (openV n v).1 c [])
  | .sl .own sz rows, n, c, L, hb, h => by
    obtain ⟨o1, o2⟩ := own_spot h
    refine ⟨[(n, spotOf sz c, L)], by simp [openV], by simp, fun e' he hk => ⟨?_, ?_⟩⟩
    · simp only [openV]
      exact o2 e' n (he (n, spotOf sz c, L) (by simp))
    · intro x hx row hr
      simp only [List.mem_singleton] at hx
      subst hx
      simp only [openV, List.mem_singleton, Prod.mk.injEq, true_and] at hr
      subst hr
      exact o1.keep hk hb
  | .agg cs, n, c, L, hb, h => by
    simp only [RV] at h
    obtain ⟨vs, h1, h2⟩ := h
    obtain ⟨S, s1, s2, s3⟩ := openVs_ok cs n hb h2
    refine ⟨S, by simpa [openV] using s1, s2, fun e' he hk => ?_⟩
    obtain ⟨g1, g2⟩ := s3 e' he hk
    simp only [openV, RV]
    exact ⟨⟨vs, h1, g1⟩, g2⟩
  | .tup cs, n, c, L, hb, h => by
    simp only [RV] at h
    obtain ⟨vs, h1, h2⟩ := h
    obtain ⟨S, s1, s2, s3⟩ := openVs_ok cs n hb h2
    refine ⟨S, by simpa [openV] using s1, s2, fun e' he hk => ?_⟩
    obtain ⟨g1, g2⟩ := s3 e' he hk
    simp only [openV, RV]
    exact ⟨⟨vs, h1, g1⟩, g2⟩
  | .any, n, c, L, hb, h | .int _ _, n, c, L, hb, h | .bool _, n, c, L, hb, h | .str _, n, c, L, hb, h | .fn _ _, n, c, L, hb, h | .nilp, n, c, L, hb, h | .ptr _ _ _, n, c, L, hb, h | .fptr _ _ _, n, c, L, hb, h
  | .nil, n, c, L, hb, h | .nilI, n, c, L, hb, h | .ifc, n, c, L, hb, h | .ns _ _ _, n, c, L, hb, h | .sl .bw _ _, n, c, L, hb, h | .sl .fz _ _, n, c, L, hb, h => by
    have hL := RV_free (by simp) (by simp) (by simp) h
    subst hL
    rw [openV_free _ _ (by simp) (by simp) (by simp)]
    exact ⟨[], rfl, rfl, fun e' _ hk => ⟨RV_keep _ hk hb h, by simp⟩⟩
theorem openVs_ok {e : Env} {A : Nat → Prop} : ∀ (l : List AV) (n : Nat) {cs : List Value} {L : List Nat}, bnds A l → RVs e l cs L → Opened e A L (openVs n l).2.1 (fun e' => RVs e' (openVs n l).1 cs [])
  | [], n, cs, L, hb, h => by
    simp only [RVs] at h
    obtain ⟨rfl, rfl⟩ := h
    exact ⟨[], rfl, rfl, fun e' _ _ => ⟨by simp [openVs, RVs], by simp⟩⟩
  | v :: l, n, cs, L, hb, h => by
    simp only [RVs] at h
    obtain ⟨c, cs', L1, L2, rfl, h1, h2, rfl⟩ := h
    obtain ⟨S1, a1, a2, a3⟩ := openV_ok v n hb.1 h1
    obtain ⟨S2, b1, b2, b3⟩ := openVs_ok l (openV n v).2.2 hb.2 h2
    refine ⟨S1 ++ S2, by simp [openVs, a1, b1], by simp [a2, b2], fun e' he hk => ?_⟩
    obtain ⟨g1, g2⟩ := a3 e' (fun x hx => he x (by simp [hx])) (hk.sub (by simp +contextual))
    obtain ⟨g3, g4⟩ := b3 e' (fun x hx => he x (by simp [hx])) (hk.sub (by simp +contextual))
    refine ⟨?_, fun x hx row hr => ?_⟩
    · simp only [openVs, RVs]
      exact ⟨c, cs', [], [], rfl, g1, g3, rfl⟩
    · simp only [openVs] at hr
      have key : ∀ {M : List (Nat × Row)} {T : List (Nat × Spot × List Nat)}, T.map (·.1) = M.map (·.1) → ∀ y ∈ T, ∃ z ∈ M, z.1 = y.1 := by
        intro M T hT y hy
        have hm : y.1 ∈ T.map (·.1) := List.mem_map.2 ⟨y, hy, rfl⟩
        rw [hT] at hm
        obtain ⟨z, hz, hzy⟩ := List.mem_map.1 hm
        exact ⟨z, hz, hzy⟩
      rcases List.mem_append.1 hx with hx | hx
      · rcases List.mem_append.1 hr with hr | hr
        · exact g2 x hx row hr
        · obtain ⟨z, hz, hzx⟩ := key a1 x hx
          have h3 := (openV_le v n).2 z hz
          have h4 := (openVs_le l (openV n v).2.2).2 _ hr
          simp only at h4
          omega
      · rcases List.mem_append.1 hr with hr | hr
        · obtain ⟨z, hz, hzx⟩ := key b1 x hx
          have h3 := (openVs_le l (openV n v).2.2).2 z hz
          have h4 := (openV_le v n).2 _ hr
          simp only at h4
          omega
        · exact g4 x hx row hr
end

end Go.Sep
