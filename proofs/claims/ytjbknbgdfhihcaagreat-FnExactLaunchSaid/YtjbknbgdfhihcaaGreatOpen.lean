/- The executor of symbolic states: the texts Enter Enter2 View Open, one after the other. No condition. -/
import Derived.Test.YtjbknbgdfhihcaaGreatSound
/- Contracts: what a call does, told by symbolic values; and how one is proved: by running the body. -/
namespace Go.Sep
set_option linter.unusedVariables false
set_option linter.unusedSimpArgs false

def preH : FP → Heap
  | [] => []
  | (n, some r, _) :: fp => (n, r) :: preH fp
  | (_, none, _) :: fp => preH fp

def postH : FP → Heap
  | [] => []
  | (n, _, some r) :: fp => (n, r) :: postH fp
  | (_, _, none) :: fp => postH fp

def blks (Lf : Nat → List Nat) (h : Heap) : List Nat := h.flatMap fun x => Lf x.1

/-- What a call leaves behind: the rows told, its result, and nothing else is touched. -/
def Post (e : Env) (Lf : Nat → List Nat) (fp : FP) (res : AV) (v : Value) (w' : World) : Prop :=
  ∃ e' Lf' L, e'.w = w' ∧ Turns e (look (preH fp)) Lf (fun n => n ∈ fp.map (·.1)) e' (look (postH fp)) Lf' ∧ RV e' res v L ∧ L.Nodup ∧
    (∀ b ∈ L, b < e'.w.heap.size ∧ (e.w.heap.size ≤ b ∨ ∃ m, m ∈ fp.map (·.1) ∧ look (preH fp) m ≠ none ∧ b ∈ Lf m)) ∧
    ∀ b ∈ L, ∀ m, m ∈ fp.map (·.1) → look (postH fp) m ≠ none → b ∉ Lf' m

/-- There is a body to be entered. -/
def Body (P : Program) (g : Nat) : Prop := ∃ fn, P.funcs[g]? = some fn ∧ (fn.name == "runtime.NumGoroutine") = false ∧ fn.body.isNone = false

def CallOk (P : Program) (num : Nat → Nat) (f : Nat) (args : List AV) (fp : FP) (res : AV) : Prop :=
  Body P (num f) ∧ ∀ (e : Env) (Lf : Nat → List Nat) (cs : List Value), e.num = num → e.w0 = e.w → Ok e (blks Lf (preH fp)) (look (preH fp)) Lf → RVs e args cs [] →
    Calls P (num f) cs.toArray e.w fun | .returned v, w' => Post e Lf fp res v w' | _, _ => False

/-- The elements of a slice of a row. -/
def partR (off len : Nat) (rows : List (List AV)) : List (List AV) := if off = 0 ∧ rows.length = len then rows else (rows.drop off).take len

theorem partR_eq {off len : Nat} {rows : List (List AV)} : partR off len rows = (rows.drop off).take len := by
  unfold partR
  split
  · rename_i h
    rw [h.1, ← h.2]
    simp
  · rfl

mutual
/-- Our own slices that stand in a value are handed over with it: the value, what is left, what must hold. -/
def giveV : Heap → AV → AV × Heap × Prop
  | h, .ns k off len => (match look h k with | some (sz, rows) => (.sl .own sz (partR off len rows), del h k, off + len ≤ rows.length) | none => (.ns k off len, h, True))
  | h, .agg cs => (.agg (giveL h cs).1, (giveL h cs).2.1, (giveL h cs).2.2)
  | h, .tup cs => (.tup (giveL h cs).1, (giveL h cs).2.1, (giveL h cs).2.2)
  | h, v => (v, h, True)
def giveL : Heap → List AV → List AV × Heap × Prop
  | h, [] => ([], h, True)
  | h, c :: cs => ((giveV h c).1 :: (giveL (giveV h c).2.1 cs).1, (giveL (giveV h c).2.1 cs).2.1, (giveV h c).2.2 ∧ (giveL (giveV h c).2.1 cs).2.2)
end

mutual
/-- No slice at all may pass for an empty one. -/
def nilV : AV → AV → Prop
  | .nil, d => d = .nil ∨ ∃ m sz, d = .sl m sz []
  | .agg cs, d => ∃ ds, d = .agg ds ∧ nilL cs ds
  | .tup cs, d => ∃ ds, d = .tup ds ∧ nilL cs ds
  | c, d => c = d
def nilL : List AV → List AV → Prop
  | [], ds => ds = []
  | c :: cs, ds => ∃ d ds', ds = d :: ds' ∧ nilV c d ∧ nilL cs ds'
end

def resAV (t : List (Nat × AV)) (h : Heap) : MRes → AV × Prop
  | .t n => (lookT t n, True)
  | .cell a n ag => match lookT t a with
    | .ptr nm 0 0 => (match look h nm with
      | some (sz, [cells]) => (if ag then .agg cells else cells.getD 0 .any, cells.length = n ∧ ∀ c ∈ cells, isOwn c = false)
      | _ => (.any, False))
    | _ => (.any, False)

def oneOr : List AV → AV
  | [v] => v
  | vs => .tup vs

def allP : List Prop → Prop
  | [] => True
  | p :: ps => p ∧ allP ps

/-- The end of a body: its results and the rows are as told. -/
def FinS (rs : List MRes) (fp : FP) (res : AV) : AS → Prop
  | .bad => True
  | .mk t h nx => allP (rs.map fun r => (resAV t h r).2) ∧ (giveL h (rs.map fun r => (resAV t h r).1)).2.2 ∧
      (∃ vs, nilL (giveL h (rs.map fun r => (resAV t h r).1)).1 vs ∧ res = oneOr vs) ∧
      ∀ x ∈ fp, look (giveL h (rs.map fun r => (resAV t h r).1)).2.1 x.1 = look (postH fp) x.1

def Fin (rs : List MRes) (fp : FP) (res : AV) (s : AS) : Prop := ∃ s1, Sub s s1 ∧ FinS rs fp res s1

mutual
theorem nilV_ok {e : Env} : ∀ {c d : AV} {v : Value} {L : List Nat}, nilV c d → RV e c v L → RV e d v L
  | .nil, d, v, L, hn, h => by
    simp only [nilV] at hn
    simp only [RV] at h
    obtain ⟨rfl, rfl⟩ := h
    rcases hn with rfl | ⟨m, sz, rfl⟩
    · simp [RV]
    · cases m
      · simp [RV]
      · simp only [RV, true_and]
        exact .inl ⟨none, 0, rfl, fun _ => rfl⟩
      · simp only [RV, true_and]
        exact .inl ⟨none, 0, rfl, fun _ => rfl⟩
  | .agg cs, d, v, L, hn, h => by
    simp only [nilV] at hn
    obtain ⟨ds, rfl, hn⟩ := hn
    simp only [RV] at h ⊢
    obtain ⟨vs, h1, h2⟩ := h
    exact ⟨vs, h1, nilL_ok hn h2⟩
  | .tup cs, d, v, L, hn, h => by
    simp only [nilV] at hn
    obtain ⟨ds, rfl, hn⟩ := hn
    simp only [RV] at h ⊢
    obtain ⟨vs, h1, h2⟩ := h
    exact ⟨vs, h1, nilL_ok hn h2⟩
  | .any, d, v, L, hn, h | .int _ _, d, v, L, hn, h | .bool _, d, v, L, hn, h | .str _, d, v, L, hn, h | .fn _ _, d, v, L, hn, h | .nilp, d, v, L, hn, h | .ptr _ _ _, d, v, L, hn, h
  | .fptr _ _ _, d, v, L, hn, h | .nilI, d, v, L, hn, h | .ifc, d, v, L, hn, h | .ns _ _ _, d, v, L, hn, h | .sl _ _ _, d, v, L, hn, h => by
    simp only [nilV] at hn
    subst hn
    exact h
theorem nilL_ok {e : Env} : ∀ {cs ds : List AV} {vs : List Value} {L : List Nat}, nilL cs ds → RVs e cs vs L → RVs e ds vs L
  | [], ds, vs, L, hn, h => by
    simp only [nilL] at hn
    subst hn
    exact h
  | c :: cs, ds, vs, L, hn, h => by
    simp only [nilL] at hn
    obtain ⟨d, ds', rfl, h1, h2⟩ := hn
    simp only [RVs] at h ⊢
    obtain ⟨v, vs', L1, L2, rfl, h3, h4, rfl⟩ := h
    exact ⟨v, vs', L1, L2, rfl, nilV_ok h1 h3, nilL_ok h2 h4, rfl⟩
end

/-- Names that are gone from h to h' own what is handed over. -/
structure Handed (Lf : Nat → List Nat) (h h' : Heap) (L : List Nat) : Prop where
  nodup : L.Nodup
  of : ∀ b ∈ L, ∃ k, look h k ≠ none ∧ look h' k = none ∧ b ∈ Lf k
  left : ∀ n r, look h' n = some r → look h n = some r

theorem RV_ns_own {e : Env} {k off len : Nat} {sz : Nat} {rows : List (List AV)} {L : List Nat} {c : Value} (hr : RowAt e k (sz, rows) L) (h : RV e (.ns k off len) c []) (hl : off + len ≤ rows.length) :
    ∃ L', RV e (.sl .own sz (partR off len rows)) c L' ∧ (∀ b ∈ L', b ∈ L) ∧ (L.Nodup → L'.Nodup) := by
  rw [partR_eq]
  simp only [RV] at h ⊢
  obtain ⟨_, h⟩ := h
  have hlen : ((rows.drop off).take len).length = len := by simp; omega
  unfold RowAt RowSp at hr
  cases hq : e.φ k with
  | dead => rw [hq] at hr; exact hr.elim
  | nilp =>
    rw [hq] at hr h
    obtain ⟨h1, h2⟩ := hr
    simp only at h1
    refine ⟨[], .inl ⟨by rw [h1]; simp, rfl, h.2.2⟩, by simp, fun _ => List.nodup_nil⟩
  | «at» q =>
    rw [hq] at hr h
    obtain ⟨h1, ⟨h2, h2', arr, ty, h2'', h2'''⟩, Lr, h3, h4⟩ := hr
    simp only at h1
    obtain ⟨h5, a, h6, h7⟩ := h
    by_cases hc : off < q.cap
    · have hs : rows = rows.take off ++ ((rows.drop off).take len ++ rows.drop (off + len)) := by
        rw [← List.drop_drop, List.take_append_drop, List.take_append_drop]
      simp only at h3
      rw [hs] at h3
      obtain ⟨M1, M2, _, g2, g3⟩ := (RRows_append _ _).1 h3
      obtain ⟨M3, M4, g4, _, g5⟩ := (RRows_append _ _).1 g2
      rw [List.length_take, Nat.min_eq_left (by omega)] at g4
      subst g3 g5
      refine ⟨q.block :: M3, .inr ⟨⟨q.block, q.off + off * q.sz, q.cap - off, q.sz⟩, M3, ⟨h1, ?_⟩, ?_, ?_, g4, rfl⟩, ?_, ?_⟩
      · show 0 < q.cap - off
        omega
      · rw [h6, h7 hc, hlen]
      · refine ⟨h2, ?_, arr, ty, h2'', ?_⟩
        · rw [hlen]
          show len ≤ q.cap - off
          omega
        · show q.off + off * q.sz + (q.cap - off) * q.sz ≤ arr.size
          have : off * q.sz + (q.cap - off) * q.sz = q.cap * q.sz := by rw [← Nat.add_mul]; congr 1; omega
          omega
      · intro b hb
        rw [h4]
        rcases List.mem_cons.1 hb with rfl | hb
        · simp
        · simp [hb]
      · intro hnd
        rw [h4] at hnd
        obtain ⟨n1, n2⟩ := List.nodup_cons.1 hnd
        refine List.nodup_cons.2 ⟨fun hb => n1 (by simp [hb]), ?_⟩
        exact (List.nodup_append.1 (List.nodup_append.1 n2).2.1).1
    · have hl0 : len = 0 := by omega
      subst hl0
      have h0 : q.cap - off = 0 := by omega
      refine ⟨[], .inl ⟨by simp, rfl, some a, by rw [h6, h0]⟩, by simp, fun _ => List.nodup_nil⟩

theorem look_del_some {h : Heap} {k n : Nat} {r : Row} (hl : look (del h k) n = some r) : look h n = some r := by
  rw [look_del] at hl
  split at hl
  · simp at hl
  · exact hl

theorem Handed.refl (Lf : Nat → List Nat) (h : Heap) : Handed Lf h h [] := ⟨List.nodup_nil, by simp, fun _ _ h => h⟩

theorem Handed.trans {Lf : Nat → List Nat} {h h1 h2 : Heap} {L1 L2 : List Nat} {e : Env} {H : Nat → Option Row} (hr : RH e H Lf) (hH : ∀ n r, look h n = some r → H n = some r) (a : Handed Lf h h1 L1) (b : Handed Lf h1 h2 L2) : Handed Lf h h2 (L1 ++ L2) := by
  have toH : ∀ n, look h n ≠ none → H n ≠ none := fun n hn => by
    cases hl : look h n with
    | none => exact absurd hl hn
    | some r => simp [hH n r hl]
  have to1 : ∀ n, look h1 n ≠ none → look h n ≠ none := fun n hn => by
    cases hl : look h1 n with
    | none => exact absurd hl hn
    | some r => simp [a.left n r hl]
  refine ⟨?_, ?_, fun n r hn => a.left n r (b.left n r hn)⟩
  · refine List.nodup_append.2 ⟨a.nodup, b.nodup, ?_⟩
    intro x hx y hy hxy
    subst hxy
    obtain ⟨k1, p1, p2, p3⟩ := a.of x hx
    obtain ⟨k2, q1, q2, q3⟩ := b.of x hy
    refine hr.dis k1 k2 (toH _ p1) (toH _ (to1 _ q1)) (fun he => ?_) x p3 q3
    rw [he] at p2
    exact q1 p2
  · intro x hx
    rcases List.mem_append.1 hx with hx | hx
    · obtain ⟨k, p1, p2, p3⟩ := a.of x hx
      refine ⟨k, p1, ?_, p3⟩
      cases hl : look h2 k with
      | none => rfl
      | some r => have := b.left k r hl; rw [p2] at this; simp at this
    · obtain ⟨k, p1, p2, p3⟩ := b.of x hx
      exact ⟨k, to1 k p1, p2, p3⟩

mutual
theorem giveV_ok {e : Env} {H : Nat → Option Row} {Lf : Nat → List Nat} (hr : RH e H Lf) : ∀ (v : AV) (h : Heap) {c : Value}, (∀ n r, look h n = some r → H n = some r) → (giveV h v).2.2 → RV e v c [] → ∃ L, RV e (giveV h v).1 c L ∧ Handed Lf h (giveV h v).2.1 L
  | .ns k off len, h, c, hH, hc, hv => by
    unfold giveV at hc ⊢
    cases hl : look h k with
    | none =>
      simp only [hl] at hc ⊢
      exact ⟨[], hv, Handed.refl Lf h⟩
    | some row =>
      obtain ⟨sz, rows⟩ := row
      simp only [hl] at hc ⊢
      have hk := hH k _ hl
      obtain ⟨L', h1, h2, h3⟩ := RV_ns_own (hr.row k _ hk) hv hc
      refine ⟨L', h1, h3 (hr.nodup k (by simp [hk])), ?_, fun n r hn => look_del_some hn⟩
      intro b hb
      exact ⟨k, by simp [hl], by simp [look_del], h2 b hb⟩
  | .agg cs, h, c, hH, hc, hv => by
    simp only [giveV] at hc ⊢
    simp only [RV] at hv ⊢
    obtain ⟨vs, h1, h2⟩ := hv
    obtain ⟨L, h3, h4⟩ := giveL_ok hr cs h hH hc h2
    exact ⟨L, ⟨vs, h1, h3⟩, h4⟩
  | .tup cs, h, c, hH, hc, hv => by
    simp only [giveV] at hc ⊢
    simp only [RV] at hv ⊢
    obtain ⟨vs, h1, h2⟩ := hv
    obtain ⟨L, h3, h4⟩ := giveL_ok hr cs h hH hc h2
    exact ⟨L, ⟨vs, h1, h3⟩, h4⟩
  | .any, h, c, hH, hc, hv | .int _ _, h, c, hH, hc, hv | .bool _, h, c, hH, hc, hv | .str _, h, c, hH, hc, hv | .fn _ _, h, c, hH, hc, hv | .nilp, h, c, hH, hc, hv | .ptr _ _ _, h, c, hH, hc, hv
  | .fptr _ _ _, h, c, hH, hc, hv | .nil, h, c, hH, hc, hv | .nilI, h, c, hH, hc, hv | .ifc, h, c, hH, hc, hv | .sl _ _ _, h, c, hH, hc, hv => by
    simp only [giveV]
    exact ⟨[], hv, Handed.refl Lf h⟩
theorem giveL_ok {e : Env} {H : Nat → Option Row} {Lf : Nat → List Nat} (hr : RH e H Lf) : ∀ (vs : List AV) (h : Heap) {cs : List Value}, (∀ n r, look h n = some r → H n = some r) → (giveL h vs).2.2 → RVs e vs cs [] → ∃ L, RVs e (giveL h vs).1 cs L ∧ Handed Lf h (giveL h vs).2.1 L
  | [], h, cs, hH, hc, hv => by
    simp only [giveL]
    exact ⟨[], hv, Handed.refl Lf h⟩
  | v :: vs, h, cs, hH, hc, hv => by
    simp only [giveL] at hc ⊢
    simp only [RVs] at hv ⊢
    obtain ⟨c, cs', L1, L2, rfl, h2, h3, h4⟩ := hv
    have hL1 : L1 = [] := (nil_of_append h4).1
    have hL2 : L2 = [] := (nil_of_append h4).2
    subst hL1 hL2
    obtain ⟨M1, g1, g2⟩ := giveV_ok hr v h hH hc.1 h2
    obtain ⟨M2, g3, g4⟩ := giveL_ok hr vs (giveV h v).2.1 (fun n r hn => hH n r (g2.left n r hn)) hc.2 h3
    exact ⟨M1 ++ M2, ⟨c, cs', M1, M2, rfl, g1, g3, rfl⟩, Handed.trans hr hH g2 g4⟩
end

end Go.Sep

/- A contract is proved by running the body. -/
namespace Go.Sep
set_option linter.unusedVariables false
set_option linter.unusedSimpArgs false

def chkRes (P : Program) : List ResultVar → List MRes → Bool
  | [], [] => true
  | .tmp t :: rs, .t n :: ms => t == n && chkRes P rs ms
  | .cell a t :: rs, .cell b n ag :: ms => a == b && sizeIs P t n && aggB P t == some ag && (ag || n == 1) && chkRes P rs ms
  | _, _ => false

def paramT : Nat → List AV → List (Nat × AV)
  | _, [] => []
  | n, v :: vs => (n, v) :: paramT (n + 1) vs

theorem lookT_paramT : ∀ (vs : List AV) (k n : Nat), lookT (paramT k vs) n = if k ≤ n then vs.getD (n - k) .any else .any
  | [], k, n => by simp [paramT, lookT]
  | v :: vs, k, n => by
    simp only [paramT, lookT, lookT_paramT vs]
    by_cases h : n = k
    · subst h; simp
    · rw [if_neg h]
      by_cases h2 : k + 1 ≤ n
      · rw [if_pos h2, if_pos (by omega), show n - k = (n - (k + 1)) + 1 by omega]
        rfl
      · rw [if_neg h2, if_neg (by omega)]

def resGet (tmps : Array Value) : ResultVar → Sem Value
  | .tmp t => pure (tmps.getD t undef)
  | .cell a t => do loadVar t (← asAddr (tmps.getD a undef))

theorem results_eq (fn : Func) (tmps : Array Value) : results fn tmps = (do
    let vs ← fn.results.mapM (resGet tmps)
    pure (if h : vs.size = 1 then vs[0] else .tuple vs)) := by
  unfold results
  congr 1

section
variable {P : Program}

/-- Results, as they are read. -/
theorem results_run {e : Env} {L0 : List Nat} {t : List (Nat × AV)} {h : Heap} {Lf : Nat → List Nat} {tmps : Array Value} (hk : Ok e L0 (look h) Lf) (ht : ∀ n, RV e (lookT t n) (tmps.getD n undef) []) :
    ∀ (rs : List ResultVar) (ms : List MRes), chkRes P rs ms = true → allP (ms.map fun r => (resAV t h r).2) →
      ∃ vs : List Value, (rs.mapM (resGet tmps)).run P e.w = .ok vs e.w ∧ RVs e (ms.map fun r => (resAV t h r).1) vs []
  | [], [], _, _ => ⟨[], by simp, by simp [RVs]⟩
  | [], m :: ms, hc, _ => by simp [chkRes] at hc
  | .tmp x :: rs, .t n :: ms, hc, ha => by
    simp only [chkRes, Bool.and_eq_true, beq_iff_eq] at hc
    obtain ⟨rfl, hc⟩ := hc
    obtain ⟨vs, h1, h2⟩ := results_run hk ht rs ms hc ha.2
    refine ⟨tmps.getD x undef :: vs, ?_, ?_⟩
    · rw [List.mapM_cons]
      simp only [resGet, Sem.run_bind, Sem.run_pure, Result.andThen_ok, h1]
    · simp only [List.map_cons, RVs]
      exact ⟨_, vs, [], [], rfl, ht x, h2, rfl⟩
  | .cell x ty :: rs, .cell a n ag :: ms, hc, ha => by
    simp only [chkRes, Bool.and_eq_true, beq_iff_eq, Bool.or_eq_true] at hc
    obtain ⟨⟨⟨⟨rfl, hsz⟩, hag⟩, h1n⟩, hc⟩ := hc
    obtain ⟨vs, h1, h2⟩ := results_run hk ht rs ms hc ha.2
    have ha1 : (resAV t h (.cell x n ag)).2 := ha.1
    have hx := ht x
    have key : ∃ v, (resGet tmps (.cell x ty)).run P e.w = .ok v e.w ∧ RV e (resAV t h (.cell x n ag)).1 v [] := by
      unfold resAV at ha1 ⊢
      simp only at ha1 ⊢
      split at ha1
      · rename_i nm hnm
        rw [hnm] at hx
        split at ha1
        · rename_i sz cells hrow
          obtain ⟨i, hi, his⟩ := sizeIs_some hsz
          obtain ⟨p, hp, hv⟩ := ptr_at (hk.rh.row nm _ hrow) hx
          have hr := hk.rh.row nm _ hrow
          unfold RowAt RowSp at hr
          rw [hp] at hr
          obtain ⟨hq, ho, Lr, hrr, hLr⟩ := hr
          simp only [RRows] at hrr
          obtain ⟨us, L1, L2, ⟨e1, e2⟩, e3, e4, e5, _, _⟩ := hrr
          have hL1 : L1 = [] := by
            have key : ∀ (l : List AV) (us : List Value) (M : List Nat), (∀ c ∈ l, isOwn c = false) → l.all cellOk = true → RVs e l us M → M = [] := by
              intro l
              induction l with
              | nil => intro us M _ _ h; simp only [RVs] at h; exact h.2
              | cons c l ih =>
                intro us M hfc hok h
                simp only [RVs] at h
                obtain ⟨v, vs', M1, M2, rfl, k1, k2, rfl⟩ := h
                simp only [List.all_cons, Bool.and_eq_true] at hok
                have := cell_free hok.1 (fun sz rows he => by have := hfc c (by simp); rw [he] at this; simp [isOwn] at this) k1
                rw [this, ih vs' M2 (fun x hx => hfc x (by simp [hx])) hok.2 k2]
                rfl
            exact key cells us L1 ha1.2 e2 e5
          subst hL1
          refine ⟨_, ?_, RV_loaded h1n ha1.1 e5⟩
          simp only [resGet, hv, Sem.run_bind, asAddr, Sem.run_pure, Result.andThen_ok]
          refine run_loadVar hag hi (fun hf => by rcases h1n with h | h <;> simp_all) (by rw [e3, his, ← ha1.1, e1]) (fun j hj => ?_)
          have := e4 j (by rw [← e1, ha1.1, ← his]; exact hj)
          simpa using this
        · exact ha1.elim
      · exact ha1.elim
    obtain ⟨v, k1, k2⟩ := key
    refine ⟨v :: vs, ?_, ?_⟩
    · rw [List.mapM_cons]
      simp only [Sem.run_bind]
      rw [k1]
      simp only [Result.andThen_ok, h1, Sem.run_pure]
    · simp only [List.map_cons, RVs]
      exact ⟨_, vs, [], [], rfl, k2, h2, rfl⟩
  | .tmp _ :: _, [], hc, _ => by simp [chkRes] at hc
  | .tmp _ :: _, .cell .. :: _, hc, _ => by simp [chkRes] at hc
  | .cell .. :: _, [], hc, _ => by simp [chkRes] at hc
  | .cell .. :: _, .t _ :: _, hc, _ => by simp [chkRes] at hc

theorem preH_post {fp : FP} {n : Nat} : look (preH fp) n ≠ none → n ∈ fp.map (·.1) := by
  induction fp with
  | nil => simp [preH, look]
  | cons x fp ih =>
    obtain ⟨m, a, b⟩ := x
    intro h
    cases a with
    | none => simp only [preH] at h; exact List.mem_cons_of_mem _ (ih h)
    | some r =>
      simp only [preH, look] at h
      by_cases hn : n = m
      · simp [hn]
      · rw [if_neg hn] at h; exact List.mem_cons_of_mem _ (ih h)

theorem postH_mem {fp : FP} {n : Nat} : look (postH fp) n ≠ none → n ∈ fp.map (·.1) := by
  induction fp with
  | nil => simp [postH, look]
  | cons x fp ih =>
    obtain ⟨m, a, b⟩ := x
    intro h
    cases b with
    | none => simp only [postH] at h; exact List.mem_cons_of_mem _ (ih h)
    | some r =>
      simp only [postH, look] at h
      by_cases hn : n = m
      · simp [hn]
      · rw [if_neg hn] at h; exact List.mem_cons_of_mem _ (ih h)

theorem mem_blks {Lf : Nat → List Nat} {h : Heap} {b : Nat} : b ∈ blks Lf h → ∃ n, look h n ≠ none ∧ b ∈ Lf n := by
  induction h with
  | nil => simp [blks]
  | cons x h ih =>
    intro hb
    simp only [blks, List.flatMap_cons, List.mem_append] at hb
    rcases hb with hb | hb
    · exact ⟨x.1, by simp [look], hb⟩
    · obtain ⟨n, h1, h2⟩ := ih hb
      refine ⟨n, ?_, h2⟩
      obtain ⟨m, r⟩ := x
      simp only [look]
      split
      · simp
      · exact h1

theorem blks_mem {Lf : Nat → List Nat} {h : Heap} {n b : Nat} (hn : look h n ≠ none) (hb : b ∈ Lf n) : b ∈ blks Lf h := by
  induction h with
  | nil => simp [look] at hn
  | cons x h ih =>
    obtain ⟨m, r⟩ := x
    simp only [blks, List.flatMap_cons, List.mem_append]
    by_cases he : n = m
    · subst he; exact .inl hb
    · simp only [look] at hn
      rw [if_neg he] at hn
      exact .inr (ih hn)

theorem nilL_length : ∀ {cs ds : List AV}, nilL cs ds → ds.length = cs.length
  | [], ds, h => by simp only [nilL] at h; simp [h]
  | c :: cs, ds, h => by
    simp only [nilL] at h
    obtain ⟨d, ds', rfl, _, h2⟩ := h
    simp [nilL_length h2]

/-- What is left at the end is what the contract tells. -/
theorem post_of_fin {num : Nat → Nat} {fn : Func} {rs : List MRes} {e : Env} {Lf0 : Nat → List Nat} {fp : FP} {res : AV} {nt : Nat} {a : Act} {w : World} {s : AS} (hr : chkRes P fn.results.toList rs = true) (hw0 : e.w0 = e.w)
    (hk0 : Ok e (blks Lf0 (preH fp)) (look (preH fp)) Lf0)
    (hfin : FinS rs fp res s) (hs : St { num := e.num, w0 := e.w, Fr := e.Fr, Bo := e.Bo, L0 := blks Lf0 (preH fp), φ0 := e.φ, nt := nt } s a w) :
    a.defers = [] ∧ ∃ v, (results fn a.tmps).run P w = .ok v w ∧ Post e Lf0 fp res v w := by
  cases s with
  | bad => exact hs.elim
  | mk t h nx =>
    obtain ⟨_, hdef, hb, hbt, φ, Lf, hl⟩ := hs
    obtain ⟨f1, f2, ⟨vs, f3, f4⟩, f5⟩ := hfin
    refine ⟨hdef, ?_⟩
    let B : Base := { num := e.num, w0 := e.w, Fr := e.Fr, Bo := e.Bo, L0 := blks Lf0 (preH fp), φ0 := e.φ, nt := nt }
    have hl' : Lies B t h nx a w φ Lf := hl
    obtain ⟨us, r1, r2⟩ := results_run hl'.ok hl'.tm fn.results.toList rs hr f1
    obtain ⟨L, g1, g2⟩ := giveL_ok hl'.ok.rh _ h (fun n r hn => hn) f2 r2
    have g3 := nilL_ok f3 g1
    let h' := (giveL h (rs.map fun r => (resAV t h r).1)).2.1
    have hlen : us.length = vs.length := RVs_length g3
    have hrun : (results fn a.tmps).run P w = .ok (if us.length = 1 then us.getD 0 undef else .tuple us.toArray) w := by
      rw [results_eq]
      simp only [Sem.run_bind]
      rw [Array.mapM_eq_mapM_toList, Sem.run_map]
      have r1' : (fn.results.toList.mapM (resGet a.tmps)).run P w = .ok us w := r1
      rw [r1']
      simp only [Result.andThen_ok, Sem.run_pure]
      by_cases h1 : us.length = 1
      · rw [if_pos h1, dif_pos (by simpa using h1)]
        congr 1
        cases us with
        | nil => simp at h1
        | cons u us => rfl
      · rw [if_neg h1, dif_neg (by simpa using h1)]
    refine ⟨_, hrun, ?_⟩
    let F : Nat → Prop := fun n => n ∈ fp.map (·.1)
    classical
    let e'' : Env := B.env w (fun n => if F n ∧ look (postH fp) n ≠ none then φ n else .dead)
    have hke : Keeps (B.env w φ) e'' (fun _ => True) (L ++ []) :=
      { num := rfl, fr := fun m b hb => by cases m <;> exact hb, cells := fun b _ o => rfl, φ := fun n _ => by
          by_cases hn : F n ∧ look (postH fp) n ≠ none
          · left; show (if F n ∧ look (postH fp) n ≠ none then φ n else Spot.dead) = φ n; rw [if_pos hn]
          · right; show (if F n ∧ look (postH fp) n ≠ none then φ n else Spot.dead) = Spot.dead; rw [if_neg hn], own := fun b _ => rfl }
    have hke' : ∀ M : List Nat, Keeps (B.env w φ) e'' (fun _ => True) M := fun M => { hke with own := fun b _ => rfl }
    have hres : RV e'' res (if us.length = 1 then us.getD 0 undef else .tuple us.toArray) L := by
      refine RV_keep res (hke' L) (bnd_true _) ?_
      rw [f4]
      by_cases h1 : us.length = 1
      · rw [if_pos h1]
        cases vs with
        | nil => rw [hlen] at h1; simp at h1
        | cons v vs =>
          cases vs with
          | nil =>
            simp only [RVs] at g3
            obtain ⟨u, us', L1, L2, rfl, k1, ⟨rfl, rfl⟩, rfl⟩ := g3
            simpa [oneOr] using k1
          | cons v' vs => rw [hlen] at h1; simp at h1
      · rw [if_neg h1]
        have : oneOr vs = .tup vs := by
          cases vs with
          | nil => rfl
          | cons v vs =>
            cases vs with
            | nil => exact absurd (hlen.trans rfl) h1
            | cons v' vs => rfl
        rw [this]
        simp only [RV]
        exact ⟨us, rfl, g3⟩
    have hrow : ∀ nm, F nm → look (postH fp) nm = look h' nm := by
      intro nm hn
      obtain ⟨x, hx, rfl⟩ := List.mem_map.1 hn
      exact (f5 x hx).symm
    have hleft : ∀ nm, F nm → look (postH fp) nm ≠ none → look h nm = look (postH fp) nm := by
      intro nm hn hp
      rw [hrow nm hn] at hp ⊢
      cases hh : look h' nm with
      | none => exact absurd hh hp
      | some r => exact g2.left nm r hh
    have hblk : ∀ nm, look h nm ≠ none → ∀ b ∈ Lf nm, b < w.heap.size ∧ (e.w.heap.size ≤ b ∨ ∃ m, F m ∧ look (preH fp) m ≠ none ∧ b ∈ Lf0 m) := by
      intro nm hn b hb
      refine ⟨(hl'.ok.rh.blk nm hn b hb).1, ?_⟩
      rcases hl'.ok.own0 nm hn b hb with h1 | h1
      · obtain ⟨m, h2, h3⟩ := mem_blks h1
        exact .inr ⟨m, preH_post h2, h2, h3⟩
      · exact .inl h1
    have hdead0 : ∀ nm, ¬ F nm → e.φ nm = .dead := by
      intro nm hn
      refine hk0.rh.dead nm ?_
      cases hh : look (preH fp) nm with
      | none => rfl
      | some r => exact absurd (preH_post (by simp [hh])) hn
    refine ⟨e'', Lf, L, rfl, ?_, hres, g2.nodup, ?_, ?_⟩
    · exact {
        num := rfl
        w0 := hw0.symm
        Fr := rfl
        Bo := rfl
        io := hl'.ok.io0
        size := hl'.ok.size0
        keep := fun b h1 h2 => by
          refine hl'.ok.keep0 b h1 (fun hm => ?_)
          obtain ⟨m, h3, h4⟩ := mem_blks hm
          exact h2 m (preH_post h3) h3 h4
        φ := fun nm hn => by
          rw [hdead0 nm hn]
          show (if F nm ∧ look (postH fp) nm ≠ none then φ nm else Spot.dead) = Spot.dead
          rw [if_neg (fun hh => hn hh.1)]
        φF := fun nm hn hp => by
          show (if F nm ∧ look (postH fp) nm ≠ none then φ nm else Spot.dead) = e.φ nm ∨ (if F nm ∧ look (postH fp) nm ≠ none then φ nm else Spot.dead) = Spot.dead
          split
          · refine (hl'.φ0 nm ?_).2
            intro hd
            have hd' : e.φ nm = .dead := hd
            cases hh : look (preH fp) nm with
            | none => exact hp hh
            | some r =>
              have := hk0.rh.row nm r hh
              unfold RowAt RowSp at this
              rw [hd'] at this
              exact this
          · exact .inr rfl
        rest := fun nm hn => by
          have h1 : look (preH fp) nm = none := by
            cases hh : look (preH fp) nm with
            | none => rfl
            | some r => exact absurd (preH_post (by simp [hh])) hn
          have h2 : look (postH fp) nm = none := by
            cases hh : look (postH fp) nm with
            | none => rfl
            | some r => exact absurd (postH_mem (by simp [hh])) hn
          rw [h1, h2]
        row := fun nm row hn hp => by
          have h1 := hleft nm hn (by simp [hp])
          have h2 := hl'.ok.rh.row nm row (by rw [h1, hp])
          refine h2.keep (hke' _) ?_ (bndr_true _)
          show (if F nm ∧ look (postH fp) nm ≠ none then φ nm else Spot.dead) = φ nm
          rw [if_pos ⟨hn, by simp [hp]⟩]
        nodup := fun nm hn hp => hl'.ok.rh.nodup nm (by rw [hleft nm hn hp]; exact hp)
        blk := fun nm hn hp b hb => hblk nm (by rw [hleft nm hn hp]; exact hp) b hb
        dis := fun n m hn hm hp hq hne b hb => hl'.ok.rh.dis n m (by rw [hleft n hn hp]; exact hp) (by rw [hleft m hm hq]; exact hq) hne b hb
        dead := fun nm hn hp => by
          show (if F nm ∧ look (postH fp) nm ≠ none then φ nm else Spot.dead) = Spot.dead
          rw [if_neg (fun hh => hh.2 hp)] }
    · intro b hb
      obtain ⟨k, h1, _, h3⟩ := g2.of b hb
      exact hblk k h1 b h3
    · intro b hb m hm hp hbm
      obtain ⟨k, h1, h2, h3⟩ := g2.of b hb
      have hm' := hleft m hm hp
      refine hl'.ok.rh.dis k m h1 (by rw [hm']; exact hp) (fun he => ?_) b h3 hbm
      subst he
      have h2' : look h' k = none := h2
      rw [hrow k hm] at hp
      exact hp h2'

/-- A contract, out of the body. -/
theorem enter {num : Nat → Nat} {f : Nat} {fn : Func} {c : Code} {m : MFn} {args : List AV} {fp : FP} {res : AV} (hf : P.funcs[num f]? = some fn) (hnm : (fn.name == "runtime.NumGoroutine") = false) (hbd : fn.body = some c) (hc : chkC P num fn.ntmps m.body c = true)
    (hr : chkRes P fn.results.toList m.results = true) (hn : args.length ≤ fn.ntmps) (hb : bnds (· < 10) args) (hh : HB (preH fp) 10)
    (hv : vc P num (Fin m.results fp res) [.code m.body] (.mk (paramT 0 args) (preH fp) 10)) : CallOk P num f args fp res := by
  refine ⟨⟨fn, hf, hnm, by rw [hbd]; rfl⟩, ?_⟩
  intro e Lf cs hnum hw0 hk hargs
  subst hnum
  have hlen := RVs_length hargs
  let B : Base := { num := e.num, w0 := e.w, Fr := e.Fr, Bo := e.Bo, L0 := blks Lf (preH fp), φ0 := e.φ, nt := fn.ntmps }
  let a0 : Act := { tmps := cs.toArray ++ Array.replicate (fn.ntmps - cs.toArray.size) undef, defers := [] }
  have he : B.env e.w e.φ = e := by
    cases e
    simp only at hw0
    subst hw0
    rfl
  have hst : St B (.mk (paramT 0 args) (preH fp) 10) a0 e.w := by
    refine ⟨?_, rfl, hh, ?_, e.φ, Lf, ?_, ?_, ?_, Nat.le_refl _⟩
    · show (cs.toArray ++ Array.replicate (fn.ntmps - cs.toArray.size) undef).size = fn.ntmps
      simp
      omega
    · intro n
      rw [lookT_paramT, if_pos (Nat.zero_le _)]
      exact bnds_getD hb _
    · rw [he]; exact hk
    · intro n
      rw [he, lookT_paramT, if_pos (Nat.zero_le _), Nat.sub_zero]
      show RV e (args.getD n .any) ((cs.toArray ++ Array.replicate (fn.ntmps - cs.toArray.size) undef).getD n undef) []
      by_cases hn' : n < args.length
      · obtain ⟨v, h1, h2⟩ := RVs_nil_get hargs n hn'
        rw [getD_get hn', Array.getD_eq_getD_getElem?, Array.getElem?_append_left (by simpa [hlen] using hn')]
        simp only [List.getElem?_toArray, h1, Option.getD_some]
        exact h2
      · have : args.getD n .any = .any := by
          rw [List.getD_eq_getElem?_getD, List.getElem?_eq_none (by omega)]; rfl
        rw [this]
        simp [RV]
    · intro n hne
      have hne' : e.φ n ≠ .dead := hne
      refine ⟨?_, .inl rfl⟩
      cases hl : look (preH fp) n with
      | none => exact absurd (hk.rh.dead n hl) hne'
      | some r => exact (hh n r hl).1
  have := vc_sound (R := fun a w => a.defers = [] ∧ ∃ v, (results fn a.tmps).run P w = .ok v w ∧ Post e Lf fp res v w) (B := B) rfl (fun s a w ⟨s1, h1, h2⟩ hs => post_of_fin (num := e.num) hr hw0 hk h2 (h1 _ _ _ hs)) _ _ (Nat.le_refl _) _ hv a0 e.w hst
  simp only [sem] at this
  refine calls_of_wp hf hbd (wp_mono (this c hc) ?_)
  rintro ex a w ⟨hex, h1, v, h2, h3⟩
  rcases hex with rfl | rfl <;> exact ⟨h1, v, h2, h3⟩

end
end Go.Sep

/- What a caller hands to a call: views of its rows; and what it gets back. -/
namespace Go.Sep
set_option linter.unusedVariables false
set_option linter.unusedSimpArgs false

mutual
/-- No names, nothing borrowed. -/
def nb : AV → Prop
  | .ptr _ _ _ | .ns _ _ _ => False
  | .sl .bw _ _ => False
  | .sl _ _ rows => nbr rows
  | .fptr .fz cells _ => nbs cells
  | .fptr _ _ _ => False
  | .agg cs => nbs cs
  | .tup cs => nbs cs
  | .fn _ cap => nbs cap
  | _ => True
def nbs : List AV → Prop
  | [] => True
  | c :: cs => nb c ∧ nbs cs
def nbr : List (List AV) → Prop
  | [] => True
  | r :: rs => nbs r ∧ nbr rs
end

mutual
/-- Lent: whatever it was, nobody writes it now. -/
def bwC : AV → AV
  | .sl _ sz rows => .sl .bw sz (bwR rows)
  | .fptr _ cells f => .fptr .bw (bwL cells) f
  | .agg cs => .agg (bwL cs)
  | .tup cs => .tup (bwL cs)
  | .fn f cap => .fn f (bwL cap)
  | v => v
def bwL : List AV → List AV
  | [] => []
  | c :: cs => bwC c :: bwL cs
def bwR : List (List AV) → List (List AV)
  | [] => []
  | r :: rs => bwL r :: bwR rs
end

theorem bwL_length : ∀ l : List AV, (bwL l).length = l.length
  | [] => rfl
  | c :: cs => by simp [bwL, bwL_length cs]
theorem bwR_length : ∀ l : List (List AV), (bwR l).length = l.length
  | [] => rfl
  | c :: cs => by simp [bwR, bwR_length cs]
theorem bwL_ok : ∀ l : List AV, l.all cellOk = true → (bwL l).all cellOk = true
  | [], _ => rfl
  | c :: cs, h => by
    simp only [List.all_cons, Bool.and_eq_true, bwL] at h ⊢
    refine ⟨?_, bwL_ok cs h.2⟩
    have := h.1
    cases c <;> simp_all [bwC, cellOk]

/-- e' tells of all frozen things that e tells of. -/
structure Sees (e e' : Env) : Prop where
  num : e'.num = e.num
  fr : ∀ b, e.Fr b → e'.Fr b
  cells : ∀ b, e.Fr b → ∀ o, e'.w0.cell? ⟨b, o, none⟩ = e.w0.cell? ⟨b, o, none⟩

mutual
theorem RV_nb {e e' : Env} (hs : Sees e e') : ∀ (v : AV) {c : Value} {L : List Nat}, (∀ b ∈ L, e'.w.heap[b]? = e.w.heap[b]?) → nb v → RV e v c L → RV e' v c L
  | .any, _, _, _, _, h | .int .., _, _, _, _, h | .bool .., _, _, _, _, h | .str .., _, _, _, _, h | .nilp, _, _, _, _, h | .nil, _, _, _, _, h | .nilI, _, _, _, _, h | .ifc, _, _, _, _, h => h
  | .fn f cap, _, _, k, hb, h => by
    simp only [RV] at h ⊢
    obtain ⟨vs, h1, h2, h3⟩ := h
    exact ⟨vs, by rw [hs.num]; exact h1, RVs_nb hs cap k hb h2, h3⟩
  | .ptr .., _, _, _, hb, _ => by simp [nb] at hb
  | .ns .., _, _, _, hb, _ => by simp [nb] at hb
  | .fptr .own _ _, _, _, _, hb, _ => by simp [nb] at hb
  | .fptr .bw _ _, _, _, _, hb, _ => by simp [nb] at hb
  | .fptr .fz cells f, _, _, k, hb, h => by
    simp only [RV] at h ⊢
    obtain ⟨h0, b, o, vs, h1, h2, h3, h4, h5⟩ := h
    subst h0
    have h2' : e.Fr b := h2
    exact ⟨rfl, b, o, vs, h1, hs.fr b h2', h3, fun j hj => by rw [hs.cells b h2']; exact h4 j hj, RVs_nb hs cells k (by simpa [nb] using hb) h5⟩
  | .sl .bw _ _, _, _, _, hb, _ => by simp [nb] at hb
  | .sl .own sz rows, _, _, k, hb, h => by
    simp only [RV] at h ⊢
    rcases h with h | ⟨p, Lr, h0, h1, h2, h3, h4⟩
    · exact .inl h
    · subst h4
      exact .inr ⟨p, Lr, h0, h1, h2.keep (k _ (by simp)), RRows_nb hs rows (fun b hb => k b (by simp [hb])) (by simpa [nb] using hb) (fun o' => cell_of_heap (k _ (by simp)) o') h3, rfl⟩
  | .sl .fz sz rows, _, _, k, hb, h => by
    simp only [RV] at h ⊢
    obtain ⟨h0, h⟩ := h
    subst h0
    refine ⟨rfl, ?_⟩
    rcases h with h | ⟨b, o, c, h1, h2, h3, h4⟩
    · exact .inl h
    · have h3' : e.Fr b := h3
      exact .inr ⟨b, o, c, h1, h2, hs.fr b h3', RRows_nb hs rows k (by simpa [nb] using hb) (fun o' => hs.cells b h3' o') h4⟩
  | .agg cs, _, _, k, hb, h => by
    simp only [RV] at h ⊢
    obtain ⟨vs, h1, h2⟩ := h
    exact ⟨vs, h1, RVs_nb hs cs k hb h2⟩
  | .tup cs, _, _, k, hb, h => by
    simp only [RV] at h ⊢
    obtain ⟨vs, h1, h2⟩ := h
    exact ⟨vs, h1, RVs_nb hs cs k hb h2⟩
theorem RVs_nb {e e' : Env} (hs : Sees e e') : ∀ (l : List AV) {cs : List Value} {L : List Nat}, (∀ b ∈ L, e'.w.heap[b]? = e.w.heap[b]?) → nbs l → RVs e l cs L → RVs e' l cs L
  | [], _, _, _, _, h => by simpa only [RVs] using h
  | c :: cs, _, _, k, hb, h => by
    simp only [RVs] at h ⊢
    obtain ⟨v, vs', L1, L2, h1, h2, h3, h4⟩ := h
    subst h4
    exact ⟨v, vs', L1, L2, h1, RV_nb hs c (fun b hb => k b (by simp [hb])) hb.1 h2, RVs_nb hs cs (fun b hb => k b (by simp [hb])) hb.2 h3, rfl⟩
theorem RRows_nb {e e' : Env} (hs : Sees e e') : ∀ (rs : List (List AV)) {W W' : World} {b o sz : Nat} {L : List Nat}, (∀ b ∈ L, e'.w.heap[b]? = e.w.heap[b]?) → nbr rs →
    (∀ o', W'.cell? ⟨b, o', none⟩ = W.cell? ⟨b, o', none⟩) → RRows e W b o sz rs L → RRows e' W' b o sz rs L
  | [], _, _, _, _, _, _, _, _, _, h => by simpa only [RRows] using h
  | r :: rs, W, W', b, o, sz, L, k, hb, hW, h => by
    simp only [RRows] at h ⊢
    obtain ⟨vs, L1, L2, h1, h2, h3, h4, h5, h6⟩ := h
    subst h6
    exact ⟨vs, L1, L2, h1, h2, fun j hj => by rw [hW]; exact h3 j hj, RVs_nb hs r (fun b hb => k b (by simp [hb])) hb.1 h4, RRows_nb hs rs (fun b hb => k b (by simp [hb])) hb.2 hW h5, rfl⟩
end

/-- e' is where a callee begins that e calls: the blocks V are lent. -/
structure Lends (e e' : Env) (V : Nat → Prop) : Prop where
  num : e'.num = e.num
  w0 : e'.w0 = e.w
  fr : ∀ b, e.Fr b → e'.Fr b
  bo : ∀ b, e.Fr b ∨ e.Bo b ∨ V b → e'.Fr b ∨ e'.Bo b
  cells : ∀ b, e.Fr b ∨ e.Bo b → ∀ o, e.w.cell? ⟨b, o, none⟩ = e.w0.cell? ⟨b, o, none⟩

mutual
theorem RV_bw {e e' : Env} {V : Nat → Prop} (hs : Lends e e' V) : ∀ (v : AV) {c : Value} {L : List Nat}, (∀ b ∈ L, V b) → bnd (fun _ => False) v → RV e v c L → RV e' (bwC v) c []
  | .any, _, _, _, _, h => by simp [bwC, RV]
  | .int .., _, _, _, _, h | .bool .., _, _, _, _, h | .str .., _, _, _, _, h | .nilp, _, _, _, _, h | .nil, _, _, _, _, h | .nilI, _, _, _, _, h | .ifc, _, _, _, _, h => by
    simp only [bwC, RV] at h ⊢
    exact ⟨h.1, trivial⟩
  | .fn f cap, _, _, k, hb, h => by
    simp only [RV, bwC] at h ⊢
    obtain ⟨vs, h1, h2, h3⟩ := h
    subst h3
    exact ⟨vs, by rw [hs.num]; exact h1, RVs_bw hs cap k hb h2, trivial⟩
  | .ptr .., _, _, _, hb, _ => by simp [bnd] at hb
  | .ns .., _, _, _, hb, _ => by simp [bnd] at hb
  | .fptr m cells f, _, _, k, hb, h => by
    simp only [RV, bwC] at h ⊢
    obtain ⟨h0, b, o, vs, h1, h2, h3, h4, h5⟩ := h
    subst h0
    have h2' := Env.frozen_or h2
    refine ⟨trivial, b, o, vs, h1, hs.bo b (h2'.imp id .inl), by rw [bwL_length]; exact h3, fun j hj => ?_, RVs_bw hs cells (by simp) hb h5⟩
    rw [hs.w0, hs.cells b h2']
    exact h4 j (by rw [bwL_length] at hj; exact hj)
  | .sl .own sz rows, _, _, k, hb, h => by
    simp only [RV, bwC] at h ⊢
    refine ⟨trivial, ?_⟩
    rcases h with ⟨rfl, _, a, rfl⟩ | ⟨p, Lr, ⟨rfl, h0⟩, rfl, h2, h3, rfl⟩
    · exact .inl ⟨rfl, a, 0, rfl, fun _ => rfl⟩
    · refine .inr ⟨p.block, p.off, p.cap, by rw [bwR_length], by rw [bwR_length]; exact h2.2.1, hs.bo _ (.inr (.inr (k _ (by simp)))), ?_⟩
      exact RRows_bw hs rows (fun b hb => k b (by simp [hb])) hb (fun o' => by rw [hs.w0]) h3
  | .sl .bw sz rows, _, _, k, hb, h => by
    simp only [RV, bwC] at h ⊢
    refine ⟨trivial, ?_⟩
    rcases h with ⟨rfl, ⟨rfl, h⟩ | ⟨b, o, c, rfl, h2, h3, h4⟩⟩
    · exact .inl ⟨rfl, h⟩
    · have h3' := Env.frozen_or h3
      exact .inr ⟨b, o, c, by rw [bwR_length], by rw [bwR_length]; exact h2, hs.bo b (h3'.imp id .inl), RRows_bw hs rows (by simp) hb (fun o' => by rw [hs.w0, hs.cells b h3']) h4⟩
  | .sl .fz sz rows, _, _, k, hb, h => by
    simp only [RV, bwC] at h ⊢
    refine ⟨trivial, ?_⟩
    rcases h with ⟨rfl, ⟨rfl, h⟩ | ⟨b, o, c, rfl, h2, h3, h4⟩⟩
    · exact .inl ⟨rfl, h⟩
    · have h3' := Env.frozen_or h3
      exact .inr ⟨b, o, c, by rw [bwR_length], by rw [bwR_length]; exact h2, hs.bo b (h3'.imp id .inl), RRows_bw hs rows (by simp) hb (fun o' => by rw [hs.w0, hs.cells b h3']) h4⟩
  | .agg cs, _, _, k, hb, h => by
    simp only [RV, bwC] at h ⊢
    obtain ⟨vs, h1, h2⟩ := h
    exact ⟨vs, h1, RVs_bw hs cs k hb h2⟩
  | .tup cs, _, _, k, hb, h => by
    simp only [RV, bwC] at h ⊢
    obtain ⟨vs, h1, h2⟩ := h
    exact ⟨vs, h1, RVs_bw hs cs k hb h2⟩
theorem RVs_bw {e e' : Env} {V : Nat → Prop} (hs : Lends e e' V) : ∀ (l : List AV) {cs : List Value} {L : List Nat}, (∀ b ∈ L, V b) → bnds (fun _ => False) l → RVs e l cs L → RVs e' (bwL l) cs []
  | [], _, _, _, _, h => by
    simp only [RVs, bwL] at h ⊢
    exact ⟨h.1, trivial⟩
  | c :: cs, _, _, k, hb, h => by
    simp only [RVs, bwL] at h ⊢
    obtain ⟨v, vs', L1, L2, h1, h2, h3, h4⟩ := h
    subst h4
    exact ⟨v, vs', [], [], h1, RV_bw hs c (fun b hb => k b (by simp [hb])) hb.1 h2, RVs_bw hs cs (fun b hb => k b (by simp [hb])) hb.2 h3, rfl⟩
theorem RRows_bw {e e' : Env} {V : Nat → Prop} (hs : Lends e e' V) : ∀ (rs : List (List AV)) {W W' : World} {b o sz : Nat} {L : List Nat}, (∀ b ∈ L, V b) → bndr (fun _ => False) rs →
    (∀ o', W'.cell? ⟨b, o', none⟩ = W.cell? ⟨b, o', none⟩) → RRows e W b o sz rs L → RRows e' W' b o sz (bwR rs) []
  | [], _, _, _, _, _, _, _, _, _, h => by simp [bwR, RRows]
  | r :: rs, W, W', b, o, sz, L, k, hb, hW, h => by
    simp only [RRows, bwR] at h ⊢
    obtain ⟨vs, L1, L2, h1, h2, h3, h4, h5, h6⟩ := h
    subst h6
    exact ⟨vs, [], [], ⟨by rw [bwL_length]; exact h1.1, bwL_ok r h1.2⟩, h2, fun j hj => by rw [hW]; exact h3 j hj, RVs_bw hs r (fun b hb => k b (by simp [hb])) hb.1 h4, RRows_bw hs rs (fun b hb => k b (by simp [hb])) hb.2 hW h5, rfl⟩
end

mutual
theorem nb_bnd {A : Nat → Prop} : ∀ (v : AV), nb v → bnd A v
  | .any, _ | .int .., _ | .bool .., _ | .str .., _ | .nilp, _ | .nil, _ | .nilI, _ | .ifc, _ => trivial
  | .fn f cap, h => nbs_bnd cap h
  | .ptr .., h => by simp [nb] at h
  | .ns .., h => by simp [nb] at h
  | .fptr .own _ _, h => by simp [nb] at h
  | .fptr .bw _ _, h => by simp [nb] at h
  | .fptr .fz cells _, h => nbs_bnd cells (by simpa [nb] using h)
  | .sl .bw _ _, h => by simp [nb] at h
  | .sl .own _ rows, h => nbr_bnd rows (by simpa [nb] using h)
  | .sl .fz _ rows, h => nbr_bnd rows (by simpa [nb] using h)
  | .agg cs, h => nbs_bnd cs h
  | .tup cs, h => nbs_bnd cs h
theorem nbs_bnd {A : Nat → Prop} : ∀ (l : List AV), nbs l → bnds A l
  | [], _ => trivial
  | c :: cs, h => ⟨nb_bnd c h.1, nbs_bnd cs h.2⟩
theorem nbr_bnd {A : Nat → Prop} : ∀ (l : List (List AV)), nbr l → bndr A l
  | [], _ => trivial
  | c :: cs, h => ⟨nbs_bnd c h.1, nbr_bnd cs h.2⟩
end

mutual
/-- Slices of our own that come back get names. -/
def openV : Nat → AV → AV × List (Nat × Row) × Nat
  | n, .sl .own sz rows => (.ns n 0 rows.length, [(n, (sz, rows))], n + 1)
  | n, .agg cs => (.agg (openVs n cs).1, (openVs n cs).2.1, (openVs n cs).2.2)
  | n, .tup cs => (.tup (openVs n cs).1, (openVs n cs).2.1, (openVs n cs).2.2)
  | n, v => (v, [], n)
def openVs : Nat → List AV → List AV × List (Nat × Row) × Nat
  | n, [] => ([], [], n)
  | n, v :: l => ((openV n v).1 :: (openVs (openV n v).2.2 l).1, (openV n v).2.1 ++ (openVs (openV n v).2.2 l).2.1, (openVs (openV n v).2.2 l).2.2)
end

end Go.Sep

/- Slices of our own that come back get names. -/
namespace Go.Sep
set_option linter.unusedVariables false
set_option linter.unusedSimpArgs false

theorem openV_free (n : Nat) (v : AV) (h1 : ∀ sz rows, v ≠ .sl .own sz rows) (h2 : ∀ cs, v ≠ .agg cs) (h3 : ∀ cs, v ≠ .tup cs) : openV n v = (v, [], n) := by
  cases v
  case sl m sz rows =>
    cases m
    · exact absurd rfl (h1 _ _)
    all_goals simp [openV]
  case agg cs => exact absurd rfl (h2 _)
  case tup cs => exact absurd rfl (h3 _)
  all_goals simp [openV]

theorem RV_free {e : Env} {v : AV} {c : Value} {L : List Nat} (h1 : ∀ sz rows, v ≠ .sl .own sz rows) (h2 : ∀ cs, v ≠ .agg cs) (h3 : ∀ cs, v ≠ .tup cs) (h : RV e v c L) : L = [] := by
  cases v
  case any => simpa [RV] using h
  case agg cs => exact absurd rfl (h2 _)
  case tup cs => exact absurd rfl (h3 _)
  case sl m sz rows =>
    cases m
    · exact absurd rfl (h1 _ _)
    all_goals simp only [RV] at h; exact h.1
  case fn => simp only [RV] at h; obtain ⟨_, _, _, h⟩ := h; exact h
  all_goals simp only [RV] at h
  case ptr => exact h.1
  case fptr => exact h.1
  case ns => exact h.1
  all_goals exact h.2

mutual
theorem openV_le : ∀ (v : AV) (n : Nat), n ≤ (openV n v).2.2 ∧ ∀ x ∈ (openV n v).2.1, n ≤ x.1 ∧ x.1 < (openV n v).2.2
  | .sl .own sz rows, n => by simp [openV]
  | .agg cs, n => by simp only [openV]; exact openVs_le cs n
  | .tup cs, n => by simp only [openV]; exact openVs_le cs n
  | .any, n | .int _ _, n | .bool _, n | .str _, n | .fn _ _, n | .nilp, n | .ptr _ _ _, n | .fptr _ _ _, n | .nil, n | .nilI, n | .ifc, n | .ns _ _ _, n | .sl .bw _ _, n | .sl .fz _ _, n => by simp [openV]
theorem openVs_le : ∀ (l : List AV) (n : Nat), n ≤ (openVs n l).2.2 ∧ ∀ x ∈ (openVs n l).2.1, n ≤ x.1 ∧ x.1 < (openVs n l).2.2
  | [], n => by simp [openVs]
  | v :: l, n => by
    obtain ⟨a1, a2⟩ := openV_le v n
    obtain ⟨b1, b2⟩ := openVs_le l (openV n v).2.2
    simp only [openVs]
    refine ⟨by omega, fun x hx => ?_⟩
    rcases List.mem_append.1 hx with hx | hx
    · have := a2 x hx; omega
    · have := b2 x hx; omega
end

mutual
theorem openV_nodup : ∀ (v : AV) (n : Nat), ((openV n v).2.1.map (·.1)).Nodup
  | .sl .own sz rows, n => by simp [openV]
  | .agg cs, n => by simp only [openV]; exact openVs_nodup cs n
  | .tup cs, n => by simp only [openV]; exact openVs_nodup cs n
  | .any, n | .int _ _, n | .bool _, n | .str _, n | .fn _ _, n | .nilp, n | .ptr _ _ _, n | .fptr _ _ _, n | .nil, n | .nilI, n | .ifc, n | .ns _ _ _, n | .sl .bw _ _, n | .sl .fz _ _, n => by simp [openV]
theorem openVs_nodup : ∀ (l : List AV) (n : Nat), ((openVs n l).2.1.map (·.1)).Nodup
  | [], n => by simp [openVs]
  | v :: l, n => by
    simp only [openVs, List.map_append]
    refine List.nodup_append.2 ⟨openV_nodup v n, openVs_nodup l _, ?_⟩
    intro x hx y hy hxy
    obtain ⟨x', hx', rfl⟩ := List.mem_map.1 hx
    obtain ⟨y', hy', rfl⟩ := List.mem_map.1 hy
    have := (openV_le v n).2 x' hx'
    have := (openVs_le l (openV n v).2.2).2 y' hy'
    omega
end

mutual
theorem openV_bnd : ∀ (v : AV) (n : Nat), bnd (· < n) v → bnd (· < (openV n v).2.2) (openV n v).1 ∧ ∀ x ∈ (openV n v).2.1, bndr (· < (openV n v).2.2) x.2.2
  | .sl .own sz rows, n, h => by
    simp only [openV, List.mem_singleton]
    refine ⟨Nat.lt_succ_self n, ?_⟩
    rintro x rfl
    exact bndr_mono (fun k hk => Nat.lt_succ_of_lt hk) rows h
  | .agg cs, n, h => by simp only [openV]; exact openVs_bnd cs n h
  | .tup cs, n, h => by simp only [openV]; exact openVs_bnd cs n h
  | .any, n, h | .int _ _, n, h | .bool _, n, h | .str _, n, h | .fn _ _, n, h | .nilp, n, h | .ptr _ _ _, n, h | .fptr _ _ _, n, h | .nil, n, h | .nilI, n, h | .ifc, n, h | .ns _ _ _, n, h | .sl .bw _ _, n, h | .sl .fz _ _, n, h => by
    simp only [openV]
    exact ⟨h, by simp⟩
theorem openVs_bnd : ∀ (l : List AV) (n : Nat), bnds (· < n) l → bnds (· < (openVs n l).2.2) (openVs n l).1 ∧ ∀ x ∈ (openVs n l).2.1, bndr (· < (openVs n l).2.2) x.2.2
  | [], n, h => by simp [openVs, bnds]
  | v :: l, n, h => by
    obtain ⟨a1, a2⟩ := openV_bnd v n h.1
    have hle := (openV_le v n).1
    have hle2 := (openVs_le l (openV n v).2.2).1
    obtain ⟨b1, b2⟩ := openVs_bnd l (openV n v).2.2 (bnds_mono (fun k hk => Nat.lt_of_lt_of_le hk hle) l h.2)
    have mono : ∀ k, k < (openV n v).2.2 → k < (openVs (openV n v).2.2 l).2.2 := fun k hk => Nat.lt_of_lt_of_le hk hle2
    simp only [openVs, bnds]
    refine ⟨⟨bnd_mono mono _ a1, b1⟩, fun x hx => ?_⟩
    rcases List.mem_append.1 hx with hx | hx
    · exact bndr_mono mono _ (a2 x hx)
    · exact b2 x hx
end

/-- Opened: which place and which blocks each new name has. -/
def Opened (e : Env) (A : Nat → Prop) (L : List Nat) (fr : List (Nat × Row)) (ok : Env → Prop) : Prop :=
  ∃ S : List (Nat × Spot × List Nat), S.map (·.1) = fr.map (·.1) ∧ L = S.flatMap (·.2.2) ∧
    ∀ e', (∀ x ∈ S, e'.φ x.1 = x.2.1) → Keeps e e' A L → ok e' ∧ ∀ x ∈ S, ∀ row, (x.1, row) ∈ fr → RowSp e' x.2.1 row x.2.2

mutual
theorem openV_ok {e : Env} {A : Nat → Prop} : ∀ (v : AV) (n : Nat) {c : Value} {L : List Nat}, bnd A v → RV e v c L → Opened e A L (openV n v).2.1 (fun e' => RV e' (openV n v).1 c [])
  | .sl .own sz rows, n, c, L, hb, h => by
    obtain ⟨o1, o2⟩ := own_spot h
    refine ⟨[(n, spotOf sz c, L)], by simp [openV], by simp, fun e' he hk => ⟨?_, ?_⟩⟩
    · simp only [openV]
      exact o2 e' n (he (n, spotOf sz c, L) (by simp))
    · intro x hx row hr
      simp only [List.mem_singleton] at hx
      subst hx
      simp only [openV, List.mem_singleton, Prod.mk.injEq, true_and] at hr
      subst hr
      exact o1.keep hk hb
  | .agg cs, n, c, L, hb, h => by
    simp only [RV] at h
    obtain ⟨vs, h1, h2⟩ := h
    obtain ⟨S, s1, s2, s3⟩ := openVs_ok cs n hb h2
    refine ⟨S, by simpa [openV] using s1, s2, fun e' he hk => ?_⟩
    obtain ⟨g1, g2⟩ := s3 e' he hk
    simp only [openV, RV]
    exact ⟨⟨vs, h1, g1⟩, g2⟩
  | .tup cs, n, c, L, hb, h => by
    simp only [RV] at h
    obtain ⟨vs, h1, h2⟩ := h
    obtain ⟨S, s1, s2, s3⟩ := openVs_ok cs n hb h2
    refine ⟨S, by simpa [openV] using s1, s2, fun e' he hk => ?_⟩
    obtain ⟨g1, g2⟩ := s3 e' he hk
    simp only [openV, RV]
    exact ⟨⟨vs, h1, g1⟩, g2⟩
  | .any, n, c, L, hb, h | .int _ _, n, c, L, hb, h | .bool _, n, c, L, hb, h | .str _, n, c, L, hb, h | .fn _ _, n, c, L, hb, h | .nilp, n, c, L, hb, h | .ptr _ _ _, n, c, L, hb, h | .fptr _ _ _, n, c, L, hb, h
  | .nil, n, c, L, hb, h | .nilI, n, c, L, hb, h | .ifc, n, c, L, hb, h | .ns _ _ _, n, c, L, hb, h | .sl .bw _ _, n, c, L, hb, h | .sl .fz _ _, n, c, L, hb, h => by
    have hL := RV_free (by simp) (by simp) (by simp) h
    subst hL
    rw [openV_free _ _ (by simp) (by simp) (by simp)]
    exact ⟨[], rfl, rfl, fun e' _ hk => ⟨RV_keep _ hk hb h, by simp⟩⟩
theorem openVs_ok {e : Env} {A : Nat → Prop} : ∀ (l : List AV) (n : Nat) {cs : List Value} {L : List Nat}, bnds A l → RVs e l cs L → Opened e A L (openVs n l).2.1 (fun e' => RVs e' (openVs n l).1 cs [])
  | [], n, cs, L, hb, h => by
    simp only [RVs] at h
    obtain ⟨rfl, rfl⟩ := h
    exact ⟨[], rfl, rfl, fun e' _ _ => ⟨by simp [openVs, RVs], by simp⟩⟩
  | v :: l, n, cs, L, hb, h => by
    simp only [RVs] at h
    obtain ⟨c, cs', L1, L2, rfl, h1, h2, rfl⟩ := h
    obtain ⟨S1, a1, a2, a3⟩ := openV_ok v n hb.1 h1
    obtain ⟨S2, b1, b2, b3⟩ := openVs_ok l (openV n v).2.2 hb.2 h2
    refine ⟨S1 ++ S2, by simp [openVs, a1, b1], by simp [a2, b2], fun e' he hk => ?_⟩
    obtain ⟨g1, g2⟩ := a3 e' (fun x hx => he x (by simp [hx])) (hk.sub (by simp +contextual))
    obtain ⟨g3, g4⟩ := b3 e' (fun x hx => he x (by simp [hx])) (hk.sub (by simp +contextual))
    refine ⟨?_, fun x hx row hr => ?_⟩
    · simp only [openVs, RVs]
      exact ⟨c, cs', [], [], rfl, g1, g3, rfl⟩
    · simp only [openVs] at hr
      have key : ∀ {M : List (Nat × Row)} {T : List (Nat × Spot × List Nat)}, T.map (·.1) = M.map (·.1) → ∀ y ∈ T, ∃ z ∈ M, z.1 = y.1 := by
        intro M T hT y hy
        have hm : y.1 ∈ T.map (·.1) := List.mem_map.2 ⟨y, hy, rfl⟩
        rw [hT] at hm
        obtain ⟨z, hz, hzy⟩ := List.mem_map.1 hm
        exact ⟨z, hz, hzy⟩
      rcases List.mem_append.1 hx with hx | hx
      · rcases List.mem_append.1 hr with hr | hr
        · exact g2 x hx row hr
        · obtain ⟨z, hz, hzx⟩ := key a1 x hx
          have h3 := (openV_le v n).2 z hz
          have h4 := (openVs_le l (openV n v).2.2).2 _ hr
          simp only at h4
          omega
      · rcases List.mem_append.1 hr with hr | hr
        · obtain ⟨z, hz, hzx⟩ := key b1 x hx
          have h3 := (openVs_le l (openV n v).2.2).2 z hz
          have h4 := (openV_le v n).2 _ hr
          simp only at h4
          omega
        · exact g4 x hx row hr
end

end Go.Sep
