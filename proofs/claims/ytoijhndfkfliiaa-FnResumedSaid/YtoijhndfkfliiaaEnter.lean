/- Contracts: what a call does, told by symbolic values; and how one is proved: by running the body. -/
import Derived.Test.YtoijhndfkfliiaaSound
namespace Go.Sep
set_option linter.unusedVariables false
set_option linter.unusedSimpArgs false

def preH : FP → Heap
  | [] => []
  | (n, some r, _) :: fp => (n, r) :: preH fp
  | (_, none, _) :: fp => preH fp

def postH : FP → Heap
  | [] => []
  | (n, _, some r) :: fp => (n, r) :: postH fp
  | (_, _, none) :: fp => postH fp

def blks (Lf : Nat → List Nat) (h : Heap) : List Nat := h.flatMap fun x => Lf x.1

/-- What a call leaves behind: the rows told, its result, and nothing else is touched. -/
def Post (e : Env) (Lf : Nat → List Nat) (fp : FP) (res : AV) (v : Value) (w' : World) : Prop :=
  ∃ e' Lf' L, e'.w = w' ∧ Turns e (look (preH fp)) Lf (fun n => n ∈ fp.map (·.1)) e' (look (postH fp)) Lf' ∧ RV e' res v L ∧ L.Nodup ∧
    (∀ b ∈ L, b < e'.w.heap.size ∧ (e.w.heap.size ≤ b ∨ ∃ m, m ∈ fp.map (·.1) ∧ look (preH fp) m ≠ none ∧ b ∈ Lf m)) ∧
    ∀ b ∈ L, ∀ m, m ∈ fp.map (·.1) → look (postH fp) m ≠ none → b ∉ Lf' m

/-- There is a body to be entered. -/
def Body (P : Program) (g : Nat) : Prop := ∃ fn, P.funcs[g]? = some fn ∧ (fn.name == "runtime.NumGoroutine") = false ∧ fn.body.isNone = false

def CallOk (P : Program) (num : Nat → Nat) (f : Nat) (args : List AV) (fp : FP) (res : AV) : Prop :=
  Body P (num f) ∧ ∀ (e : Env) (Lf : Nat → List Nat) (cs : List Value), e.num = num → e.w0 = e.w → Ok e (blks Lf (preH fp)) (look (preH fp)) Lf → RVs e args cs [] →
    Calls P (num f) cs.toArray e.w fun | .returned v, w' => Post e Lf fp res v w' | _, _ => False

/-- The elements of a slice of a row. -/
def partR (off len : Nat) (rows : List (List AV)) : List (List AV) := if off = 0 ∧ rows.length = len then rows else (rows.drop off).take len

theorem partR_eq {off len : Nat} {rows : List (List AV)} : partR off len rows = (rows.drop off).take len := by
  unfold partR
  split
  · rename_i h
    rw [h.1, ← h.2]
    simp
  · rfl

mutual
/-- Our own slices that stand in a value are handed over with it: the value, what is left, what must hold. -/
def giveV : Heap → AV → AV × Heap × Prop
  | h, .ns k off len => (match look h k with | some (sz, rows) => (.sl .own sz (partR off len rows), del h k, off + len ≤ rows.length) | none => (.ns k off len, h, True))
  | h, .agg cs => (.agg (giveL h cs).1, (giveL h cs).2.1, (giveL h cs).2.2)
  | h, .tup cs => (.tup (giveL h cs).1, (giveL h cs).2.1, (giveL h cs).2.2)
  | h, v => (v, h, True)
def giveL : Heap → List AV → List AV × Heap × Prop
  | h, [] => ([], h, True)
  | h, c :: cs => ((giveV h c).1 :: (giveL (giveV h c).2.1 cs).1, (giveL (giveV h c).2.1 cs).2.1, (giveV h c).2.2 ∧ (giveL (giveV h c).2.1 cs).2.2)
end

mutual
/-- No slice at all may pass for an empty one. -/
def nilV : AV → AV → Prop
  | .nil, d => d = .nil ∨ ∃ m sz, d = .sl m sz []
  | .agg cs, d => ∃ ds, d = .agg ds ∧ nilL cs ds
  | .tup cs, d => ∃ ds, d = .tup ds ∧ nilL cs ds
  | c, d => c = d
def nilL : List AV → List AV → Prop
  | [], ds => ds = []
  | c :: cs, ds => ∃ d ds', ds = d :: ds' ∧ nilV c d ∧ nilL cs ds'
end

def resAV (t : List (Nat × AV)) (h : Heap) : MRes → AV × Prop
  | .t n => (lookT t n, True)
  | .cell a n ag => match lookT t a with
    | .ptr nm 0 0 => (match look h nm with
      | some (sz, [cells]) => (if ag then .agg cells else cells.getD 0 .any, cells.length = n ∧ ∀ c ∈ cells, isOwn c = false)
      | _ => (.any, False))
    | _ => (.any, False)

def oneOr : List AV → AV
  | [v] => v
  | vs => .tup vs

def allP : List Prop → Prop
  | [] => True
  | p :: ps => p ∧ allP ps

/-- The end of a body: its results and the rows are as told. -/
def FinS (rs : List MRes) (fp : FP) (res : AV) : AS → Prop
  | .bad => True
  | .mk t h nx => allP (rs.map fun r => (resAV t h r).2) ∧ (giveL h (rs.map fun r => (resAV t h r).1)).2.2 ∧
      (∃ vs, nilL (giveL h (rs.map fun r => (resAV t h r).1)).1 vs ∧ res = oneOr vs) ∧
      ∀ x ∈ fp, look (giveL h (rs.map fun r => (resAV t h r).1)).2.1 x.1 = look (postH fp) x.1

def Fin (rs : List MRes) (fp : FP) (res : AV) (s : AS) : Prop := ∃ s1, Sub s s1 ∧ FinS rs fp res s1

mutual
theorem nilV_ok {e : Env} : ∀ {c d : AV} {v : Value} {L : List Nat}, nilV c d → RV e c v L → RV e d v L
  | .nil, d, v, L, hn, h => by
    simp only [nilV] at hn
    simp only [RV] at h
    obtain ⟨rfl, rfl⟩ := h
    rcases hn with rfl | ⟨m, sz, rfl⟩
    · simp [RV]
    · cases m
      · simp [RV]
      · simp only [RV, true_and]
        exact .inl ⟨none, 0, rfl, fun _ => rfl⟩
      · simp only [RV, true_and]
        exact .inl ⟨none, 0, rfl, fun _ => rfl⟩
  | .agg cs, d, v, L, hn, h => by
    simp only [nilV] at hn
    obtain ⟨ds, rfl, hn⟩ := hn
    simp only [RV] at h ⊢
    obtain ⟨vs, h1, h2⟩ := h
    exact ⟨vs, h1, nilL_ok hn h2⟩
  | .tup cs, d, v, L, hn, h => by
    simp only [nilV] at hn
    obtain ⟨ds, rfl, hn⟩ := hn
    simp only [RV] at h ⊢
    obtain ⟨vs, h1, h2⟩ := h
    exact ⟨vs, h1, nilL_ok hn h2⟩
  | .any, d, v, L, hn, h | .int _ _, d, v, L, hn, h | .bool _, d, v, L, hn, h | .str _, d, v, L, hn, h | .fn _ _, d, v, L, hn, h | .nilp, d, v, L, hn, h | .ptr _ _ _, d, v, L, hn, h
  | .fptr _ _ _, d, v, L, hn, h | .nilI, d, v, L, hn, h | .ifc, d, v, L, hn, h | .ns _ _ _, d, v, L, hn, h | .sl _ _ _, d, v, L, hn, h => by
    simp only [nilV] at hn
    subst hn
    exact h
theorem nilL_ok {e : Env} : ∀ {cs ds : List AV} {vs : List Value} {L : List Nat}, nilL cs ds → RVs e cs vs L → RVs e ds vs L
  | [], ds, vs, L, hn, h => by
    simp only [nilL] at hn
    subst hn
    exact h
  | c :: cs, ds, vs, L, hn, h => by
    simp only [nilL] at hn
    obtain ⟨d, ds', rfl, h1, h2⟩ := hn
    simp only [RVs] at h ⊢
    obtain ⟨v, vs', L1, L2, rfl, h3, h4, rfl⟩ := h
    exact ⟨v, vs', L1, L2, rfl, nilV_ok h1 h3, nilL_ok h2 h4, rfl⟩
end

/-- Names that are gone from h to h' own what is handed over. -/
structure Handed (Lf : Nat → List Nat) (h h' : Heap) (L : List Nat) : Prop where
  nodup : L.Nodup
  of : ∀ b ∈ L, ∃ k, look h k ≠ none ∧ look h' k = none ∧ b ∈ Lf k
  left : ∀ n r, look h' n = some r → look h n = some r

theorem RV_ns_own {e : Env} {k off len : Nat} {sz : Nat} {rows : List (List AV)} {L : List Nat} {c : Value} (hr : RowAt e k (sz, rows) L) (h : RV e (.ns k off len) c []) (hl : off + len ≤ rows.length) :
    ∃ L', RV e (.sl .own sz (partR off len rows)) c L' ∧ (∀ b ∈ L', b ∈ L) ∧ (L.Nodup → L'.Nodup) := by
  rw [partR_eq]
  simp only [RV] at h ⊢
  obtain ⟨_, h⟩ := h
  have hlen : ((rows.drop off).take len).length = len := by simp; omega
  unfold RowAt RowSp at hr
  cases hq : e.φ k with
  | dead => rw [hq] at hr; exact hr.elim
  | nilp =>
    rw [hq] at hr h
    obtain ⟨h1, h2⟩ := hr
    simp only at h1
    refine ⟨[], .inl ⟨by rw [h1]; simp, rfl, h.2.2⟩, by simp, fun _ => List.nodup_nil⟩
  | «at» q =>
    rw [hq] at hr h
    obtain ⟨h1, ⟨h2, h2', arr, ty, h2'', h2'''⟩, Lr, h3, h4⟩ := hr
    simp only at h1
    obtain ⟨h5, a, h6, h7⟩ := h
    by_cases hc : off < q.cap
    · have hs : rows = rows.take off ++ ((rows.drop off).take len ++ rows.drop (off + len)) := by
        rw [← List.drop_drop, List.take_append_drop, List.take_append_drop]
      simp only at h3
      rw [hs] at h3
      obtain ⟨M1, M2, _, g2, g3⟩ := (RRows_append _ _).1 h3
      obtain ⟨M3, M4, g4, _, g5⟩ := (RRows_append _ _).1 g2
      rw [List.length_take, Nat.min_eq_left (by omega)] at g4
      subst g3 g5
      refine ⟨q.block :: M3, .inr ⟨⟨q.block, q.off + off * q.sz, q.cap - off, q.sz⟩, M3, ⟨h1, ?_⟩, ?_, ?_, g4, rfl⟩, ?_, ?_⟩
      · show 0 < q.cap - off
        omega
      · rw [h6, h7 hc, hlen]
      · refine ⟨h2, ?_, arr, ty, h2'', ?_⟩
        · rw [hlen]
          show len ≤ q.cap - off
          omega
        · show q.off + off * q.sz + (q.cap - off) * q.sz ≤ arr.size
          have : off * q.sz + (q.cap - off) * q.sz = q.cap * q.sz := by rw [← Nat.add_mul]; congr 1; omega
          omega
      · intro b hb
        rw [h4]
        rcases List.mem_cons.1 hb with rfl | hb
        · simp
        · simp [hb]
      · intro hnd
        rw [h4] at hnd
        obtain ⟨n1, n2⟩ := List.nodup_cons.1 hnd
        refine List.nodup_cons.2 ⟨fun hb => n1 (by simp [hb]), ?_⟩
        exact (List.nodup_append.1 (List.nodup_append.1 n2).2.1).1
    · have hl0 : len = 0 := by omega
      subst hl0
      have h0 : q.cap - off = 0 := by omega
      refine ⟨[], .inl ⟨by simp, rfl, some a, by rw [h6, h0]⟩, by simp, fun _ => List.nodup_nil⟩

theorem look_del_some {h : Heap} {k n : Nat} {r : Row} (hl : look (del h k) n = some r) : look h n = some r := by
  rw [look_del] at hl
  split at hl
  · simp at hl
  · exact hl

theorem Handed.refl (Lf : Nat → List Nat) (h : Heap) : Handed Lf h h [] := ⟨List.nodup_nil, by simp, fun _ _ h => h⟩

theorem Handed.trans {Lf : Nat → List Nat} {h h1 h2 : Heap} {L1 L2 : List Nat} {e : Env} {H : Nat → Option Row} (hr : RH e H Lf) (hH : ∀ n r, look h n = some r → H n = some r) (a : Handed Lf h h1 L1) (b : Handed Lf h1 h2 L2) : Handed Lf h h2 (L1 ++ L2) := by
  have toH : ∀ n, look h n ≠ none → H n ≠ none := fun n hn => by
    cases hl : look h n with
    | none => exact absurd hl hn
    | some r => simp [hH n r hl]
  have to1 : ∀ n, look h1 n ≠ none → look h n ≠ none := fun n hn => by
    cases hl : look h1 n with
    | none => exact absurd hl hn
    | some r => simp [a.left n r hl]
  refine ⟨?_, ?_, fun n r hn => a.left n r (b.left n r hn)⟩
  · refine List.nodup_append.2 ⟨a.nodup, b.nodup, ?_⟩
    intro x hx y hy hxy
    subst hxy
    obtain ⟨k1, p1, p2, p3⟩ := a.of x hx
    obtain ⟨k2, q1, q2, q3⟩ := b.of x hy
    refine hr.dis k1 k2 (toH _ p1) (toH _ (to1 _ q1)) (fun he => ?_) x p3 q3
    rw [he] at p2
    exact q1 p2
  · intro x hx
    rcases List.mem_append.1 hx with hx | hx
    · obtain ⟨k, p1, p2, p3⟩ := a.of x hx
      refine ⟨k, p1, ?_, p3⟩
      cases hl : look h2 k with
      | none => rfl
      | some r => have := b.left k r hl; rw [p2] at this; simp at this
    · obtain ⟨k, p1, p2, p3⟩ := b.of x hx
      exact ⟨k, to1 k p1, p2, p3⟩

mutual
theorem giveV_ok {e : Env} {H : Nat → Option Row} {Lf : Nat → List Nat} (hr : RH e H Lf) : ∀ (v : AV) (h : Heap) {c : Value}, (∀ n r, look h n = some r → H n = some r) → (giveV h v).2.2 → RV e v c [] → ∃ L, RV e (giveV h v).1 c L ∧ Handed Lf h (giveV h v).2.1 L
  | .ns k off len, h, c, hH, hc, hv => by
    unfold giveV at hc ⊢
    cases hl : look h k with
    | none =>
      simp only [hl] at hc ⊢
      exact ⟨[], hv, Handed.refl Lf h⟩
    | some row =>
      obtain ⟨sz, rows⟩ := row
      simp only [hl] at hc ⊢
      have hk := hH k _ hl
      obtain ⟨L', h1, h2, h3⟩ := RV_ns_own (hr.row k _ hk) hv hc
      refine ⟨L', h1, h3 (hr.nodup k (by simp [hk])), ?_, fun n r hn => look_del_some hn⟩
      intro b hb
      exact ⟨k, by simp [hl], by simp [look_del], h2 b hb⟩
  | .agg cs, h, c, hH, hc, hv => by
    simp only [giveV] at hc ⊢
    simp only [RV] at hv ⊢
    obtain ⟨vs, h1, h2⟩ := hv
    obtain ⟨L, h3, h4⟩ := giveL_ok hr cs h hH hc h2
    exact ⟨L, ⟨vs, h1, h3⟩, h4⟩
  | .tup cs, h, c, hH, hc, hv => by
    simp only [giveV] at hc ⊢
    simp only [RV] at hv ⊢
    obtain ⟨vs, h1, h2⟩ := hv
    obtain ⟨L, h3, h4⟩ := giveL_ok hr cs h hH hc h2
    exact ⟨L, ⟨vs, h1, h3⟩, h4⟩
  | .any, h, c, hH, hc, hv | .int _ _, h, c, hH, hc, hv | .bool _, h, c, hH, hc, hv | .str _, h, c, hH, hc, hv | .fn _ _, h, c, hH, hc, hv | .nilp, h, c, hH, hc, hv | .ptr _ _ _, h, c, hH, hc, hv
  | .fptr _ _ _, h, c, hH, hc, hv | .nil, h, c, hH, hc, hv | .nilI, h, c, hH, hc, hv | .ifc, h, c, hH, hc, hv | .sl _ _ _, h, c, hH, hc, hv => by
    simp only [giveV]
    exact ⟨[], hv, Handed.refl Lf h⟩
theorem giveL_ok {e : Env} {H : Nat → Option Row} {Lf : Nat → List Nat} (hr : RH e H Lf) : ∀ (vs : List AV) (h : Heap) {cs : List Value}, (∀ n r, look h n = some r → H n = some r) → (giveL h vs).2.2 → RVs e vs cs [] → ∃ L, RVs e (giveL h vs).1 cs L ∧ Handed Lf h (giveL h vs).2.1 L
  | [], h, cs, hH, hc, hv => by
    simp only [giveL]
    exact ⟨[], hv, Handed.refl Lf h⟩
  | v :: vs, h, cs, hH, hc, hv => by
    simp only [giveL] at hc ⊢
    simp only [RVs] at hv ⊢
    obtain ⟨c, cs', L1, L2, rfl, h2, h3, h4⟩ := hv
    have hL1 : L1 = [] := (nil_of_append h4).1
    have hL2 : L2 = [] := (nil_of_append h4).2
    subst hL1 hL2
    obtain ⟨M1, g1, g2⟩ := giveV_ok hr v h hH hc.1 h2
    obtain ⟨M2, g3, g4⟩ := giveL_ok hr vs (giveV h v).2.1 (fun n r hn => hH n r (g2.left n r hn)) hc.2 h3
    exact ⟨M1 ++ M2, ⟨c, cs', M1, M2, rfl, g1, g3, rfl⟩, Handed.trans hr hH g2 g4⟩
end

end Go.Sep
