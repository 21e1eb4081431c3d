/- append: the row goes, a new one takes its place: in the old block, or in a new one. -/
import Derived.Test.YtoijhndfkfliiaaStore
import Derived.Laws.Append
namespace Go.Sep
set_option linter.unusedVariables false
set_option linter.unusedSimpArgs false

/-- A row of ours goes (D), a new one (nx) comes, beside rows that are read. -/
theorem Turns.move {e : Env} {L0 : List Nat} {H : Nat → Option Row} {Lf : Nat → List Nat} {A : Nat → Prop} {rd dl : FP} {nx : Nat} {row' : Row} {w' : World} {s' : Spot} {L' : List Nat} (hk : Ok e L0 H Lf)
    (hbh : ∀ nm row, H nm = some row → bndr A row.2) (hrd : ∀ x ∈ rd, x.2.2 = x.2.1) (hpre : ∀ x ∈ rd ++ dl, H x.1 = x.2.1) (hdl : ∀ x ∈ dl, x.2.2 = none) (hapart : ∀ x ∈ rd, x.1 ∉ dl.map (·.1)) (hnone : H nx = none) (hnA : ¬ A nx)
    (hnx : nx ∉ rd.map (·.1) ∧ nx ∉ dl.map (·.1)) (hs : e.w.heap.size ≤ w'.heap.size) (hio : SameIo e.w w')
    (hw : ∀ c, c < e.w.heap.size → (∀ n ∈ dl.map (·.1), H n ≠ none → c ∉ Lf n) → w'.heap[c]? = e.w.heap[c]?)
    (hr : ∀ e' : Env, e'.w = w' → e'.φ nx = s' → Keeps e e' A [] → RowSp e' s' row' L') (hnd : L'.Nodup)
    (hsub : ∀ b ∈ L', b < w'.heap.size ∧ (e.w.heap.size ≤ b ∨ ∃ n ∈ dl.map (·.1), H n ≠ none ∧ b ∈ Lf n)) :
    ∃ e' Lf', e'.w = w' ∧ e'.φ nx = s' ∧ (∀ nm, A nm → e'.φ nm = e.φ nm ∨ e'.φ nm = .dead) ∧
      Turns e H Lf (fun n => n ∈ (rd ++ dl ++ [(nx, none, some row')] : FP).map (·.1)) e' (upH H (rd ++ dl ++ [(nx, none, some row')])) Lf' := by
  classical
  let e' : Env := { e with w := w', φ := fun n => if n = nx then s' else if n ∈ dl.map (·.1) then .dead else e.φ n }
  have φx : e'.φ nx = s' := if_pos rfl
  have φd : ∀ n, n ≠ nx → n ∈ dl.map (·.1) → e'.φ n = .dead := fun n h1 h2 => by
    show (if n = nx then _ else if n ∈ dl.map (·.1) then _ else _) = _
    rw [if_neg h1, if_pos h2]
  have φn : ∀ n, n ≠ nx → n ∉ dl.map (·.1) → e'.φ n = e.φ n := fun n h1 h2 => by
    show (if n = nx then _ else if n ∈ dl.map (·.1) then _ else _) = _
    rw [if_neg h1, if_neg h2]
  have hA : ∀ nm, A nm → e'.φ nm = e.φ nm ∨ e'.φ nm = .dead := fun nm h => by
    have h1 : nm ≠ nx := fun he => hnA (he ▸ h)
    by_cases h2 : nm ∈ dl.map (·.1)
    · exact .inr (φd nm h1 h2)
    · exact .inl (φn nm h1 h2)
  have hHd : ∀ (dl : FP) (H : Nat → Option Row), (∀ x ∈ dl, x.2.2 = none) → ∀ n, upH H dl n = if n ∈ dl.map (·.1) then none else H n := by
    intro dl
    induction dl with
    | nil => intro H _ n; rfl
    | cons x dl ih =>
      obtain ⟨m, q, r⟩ := x
      intro H hd n
      have hr : r = none := hd (m, q, r) (by simp)
      subst hr
      simp only [upH]
      rw [ih _ (fun x hx => hd x (by simp [hx]))]
      by_cases h1 : n ∈ dl.map (·.1)
      · simp [h1]
      · by_cases h2 : n = m <;> simp [h1, h2]
  have hH : ∀ n, upH H (rd ++ dl ++ [(nx, none, some row')]) n = if n = nx then some row' else if n ∈ dl.map (·.1) then none else H n := by
    intro n
    rw [upH_append, upH_append, upH_same (fun x hx => hpre x (by simp [hx])) hrd]
    show (if n = nx then some row' else upH H dl n) = _
    rw [hHd dl H hdl]
  have memF : ∀ n, n ∈ (rd ++ dl ++ [(nx, none, some row')] : FP).map (·.1) ↔ n ∈ rd.map (·.1) ∨ n ∈ dl.map (·.1) ∨ n = nx := by
    intro n; simp [List.mem_append]
  have hdead : ∀ x ∈ dl, H x.1 = x.2.1 := fun x hx => hpre x (by simp [hx])
  have keepL : ∀ nm, H nm ≠ none → nm ∉ dl.map (·.1) → ∀ b ∈ Lf nm, w'.heap[b]? = e.w.heap[b]? := fun nm hn hd b hb =>
    hw b (hk.rh.blk nm hn b hb).1 (fun n hn2 hne => hk.rh.dis nm n hn hne (fun he => hd (he ▸ hn2)) b hb)
  have kp : ∀ L : List Nat, (∀ b ∈ L, w'.heap[b]? = e.w.heap[b]?) → Keeps e e' A L := fun L hL => {
    num := rfl
    fr := fun m b h => by cases m <;> exact h
    cells := fun b _ o => rfl
    φ := hA
    own := hL }
  refine ⟨e', fun n => if n = nx then L' else Lf n, rfl, φx, hA, ?_⟩
  refine { num := rfl, w0 := rfl, Fr := rfl, Bo := rfl, io := hio, size := hs, keep := ?_, φ := ?_, φF := ?_, rest := ?_, row := ?_, nodup := ?_, blk := ?_, dis := ?_, dead := ?_ }
  · intro c hc h
    exact hw c hc (fun n hn hne => h n ((memF n).2 (.inr (.inl hn))) hne)
  · intro nm hF
    exact φn nm (fun he => hF ((memF nm).2 (.inr (.inr he)))) (fun hd => hF ((memF nm).2 (.inr (.inl hd))))
  · intro nm _ hne
    have h1 : nm ≠ nx := fun he => hne (he ▸ hnone)
    by_cases h2 : nm ∈ dl.map (·.1)
    · exact .inr (φd nm h1 h2)
    · exact .inl (φn nm h1 h2)
  · intro nm hF
    rw [hH, if_neg (fun he => hF ((memF nm).2 (.inr (.inr he)))), if_neg (fun hd => hF ((memF nm).2 (.inr (.inl hd))))]
  · intro nm row _ hrow
    rw [hH] at hrow
    by_cases h1 : nm = nx
    · subst h1
      rw [if_pos rfl] at hrow
      simp only [Option.some.injEq] at hrow
      subst hrow
      simp only [if_true]
      unfold RowAt
      rw [φx]
      exact hr e' rfl φx (kp [] (by simp))
    · rw [if_neg h1] at hrow
      simp only [if_neg h1]
      by_cases h2 : nm ∈ dl.map (·.1)
      · rw [if_pos h2] at hrow; simp at hrow
      · rw [if_neg h2] at hrow
        exact (hk.rh.row nm row hrow).keep (kp _ (keepL nm (by simp [hrow]) h2)) (φn nm h1 h2) (hbh nm row hrow)
  · intro nm _ hne
    rw [hH] at hne
    by_cases h1 : nm = nx
    · simpa [h1] using hnd
    · rw [if_neg h1] at hne
      simp only [if_neg h1]
      by_cases h2 : nm ∈ dl.map (·.1)
      · rw [if_pos h2] at hne; exact absurd rfl hne
      · rw [if_neg h2] at hne; exact hk.rh.nodup nm hne
  · intro nm hF hne b hb
    rw [hH] at hne
    by_cases h1 : nm = nx
    · simp only [if_pos h1] at hb
      obtain ⟨g1, g2⟩ := hsub b hb
      refine ⟨g1, g2.imp id ?_⟩
      rintro ⟨n, hn, g3, g4⟩
      exact ⟨n, (memF n).2 (.inr (.inl hn)), g3, g4⟩
    · rw [if_neg h1] at hne
      simp only [if_neg h1] at hb
      by_cases h2 : nm ∈ dl.map (·.1)
      · rw [if_pos h2] at hne; exact absurd rfl hne
      · rw [if_neg h2] at hne
        exact ⟨Nat.lt_of_lt_of_le (hk.rh.blk nm hne b hb).1 hs, .inr ⟨nm, hF, hne, hb⟩⟩
  · have key : ∀ m, m ≠ nx → m ∉ dl.map (·.1) → H m ≠ none → ∀ b, b ∈ L' → b ∈ Lf m → False := by
      intro m h1 h2 hne b hb hb2
      obtain ⟨_, g2 | ⟨n, hn, g3, g4⟩⟩ := hsub b hb
      · have := (hk.rh.blk m hne b hb2).1; omega
      · exact hk.rh.dis n m g3 hne (fun he => h2 (he ▸ hn)) b g4 hb2
    intro n m _ _ hn hm hne b hb1 hb2
    rw [hH] at hn hm
    by_cases h1 : n = nx <;> by_cases h2 : m = nx
    · exact hne (h1.trans h2.symm)
    · simp only [if_pos h1, if_neg h2] at hb1 hb2 hm
      by_cases h3 : m ∈ dl.map (·.1)
      · rw [if_pos h3] at hm; exact hm rfl
      · rw [if_neg h3] at hm; exact key m h2 h3 hm b hb1 hb2
    · simp only [if_pos h2, if_neg h1] at hb1 hb2 hn
      by_cases h3 : n ∈ dl.map (·.1)
      · rw [if_pos h3] at hn; exact hn rfl
      · rw [if_neg h3] at hn; exact key n h1 h3 hn b hb2 hb1
    · simp only [if_neg h1, if_neg h2] at hb1 hb2 hn hm
      by_cases h3 : n ∈ dl.map (·.1)
      · rw [if_pos h3] at hn; exact hn rfl
      · by_cases h4 : m ∈ dl.map (·.1)
        · rw [if_pos h4] at hm; exact hm rfl
        · rw [if_neg h3] at hn; rw [if_neg h4] at hm
          exact hk.rh.dis n m hn hm hne b hb1 hb2
  · intro nm _ hno
    rw [hH] at hno
    by_cases h1 : nm = nx
    · simp [h1] at hno
    · rw [if_neg h1] at hno
      by_cases h2 : nm ∈ dl.map (·.1)
      · exact φd nm h1 h2
      · rw [if_neg h2] at hno
        rw [φn nm h1 h2]
        exact hk.rh.dead nm hno

theorem free_FlatV {e : Env} {sz : Nat} : ∀ {rows : List (List AV)} {vs : List Value} {L : List Nat}, free rows → FlatV e sz rows vs L → L = []
  | [], _, _, _, h => by simp only [FlatV] at h; exact h.2
  | r :: rs, vs, L, hf, h => by
    simp only [FlatV] at h
    obtain ⟨v1, v2, L1, L2, rfl, h1, h2, h3, rfl⟩ := h
    have g1 : L1 = [] := by
      have key : ∀ (l : List AV) (us : List Value) (M : List Nat), (∀ c ∈ l, isOwn c = false) → l.all cellOk = true → RVs e l us M → M = [] := by
        intro l
        induction l with
        | nil => intro us M _ _ h; simp only [RVs] at h; exact h.2
        | cons c l ih =>
          intro us M hfc hok h
          simp only [RVs] at h
          obtain ⟨v, vs', M1, M2, rfl, k1, k2, rfl⟩ := h
          simp only [List.all_cons, Bool.and_eq_true] at hok
          have := cell_free hok.1 (fun sz rows he => by have := hfc c (by simp); rw [he] at this; simp [isOwn] at this) k1
          rw [this, ih vs' M2 (fun x hx => hfc x (by simp [hx])) hok.2 k2]
          rfl
      exact key r v1 L1 (fun c hc => hf r (by simp) c hc) h1.2 h2
    rw [g1, free_FlatV (fun x hx => hf x (by simp [hx])) h3]
    rfl

section
variable {P : Program} {num : Nat → Nat} {o : Oper} {ρ : Nat → AV} {h : Heap} {nx nx' : Nat} {p : Prop} {v : AV} {fp : FP}

/-- What is appended: its length and its cells, and that they own nothing. -/
theorem src_run {h : Heap} {e : Env} {L0 : List Nat} {H : Nat → Option Row} {Lf : Nat → List Nat} {sz : Nat} {d : AV} {c : Value} {cond : Prop} {xs : List (List AV)} {rd : FP} (hk : Ok e L0 H Lf) (hs : srcA h sz d = some (cond, xs, rd)) (hc : cond)
    (hpre : ∀ x ∈ rd, H x.1 = x.2.1) (hv : RV e d c []) : (∀ x ∈ rd, x.2.2 = x.2.1) ∧ Builtin.lenOf c = pure xs.length ∧ ∃ vals, FlatV e sz xs vals [] ∧
      ∀ w' : World, Same e rd w' → (Builtin.firstCells sz xs.length c).run P w' = .ok vals.toArray w' := by
  have frozen : ∀ (m : Mode) (s : Nat) (rows : List (List AV)), m ≠ .own → d = .sl m s rows → some (s = sz ∧ free rows, rows, ([] : FP)) = some (cond, xs, rd) → (∀ x ∈ rd, x.2.2 = x.2.1) ∧ Builtin.lenOf c = pure xs.length ∧ ∃ vals, FlatV e sz xs vals [] ∧
      ∀ w' : World, Same e rd w' → (Builtin.firstCells sz xs.length c).run P w' = .ok vals.toArray w' := by
    intro m s rows hm hd hs
    simp only [Option.some.injEq, Prod.mk.injEq] at hs
    obtain ⟨rfl, rfl, rfl⟩ := hs
    obtain ⟨rfl, hf⟩ := hc
    refine ⟨by simp, ?_⟩
    have hv' : (rows = [] ∧ ∃ a c', c = .slice a 0 c' ∧ (a = none → c' = 0)) ∨ ∃ b o c', c = .slice (some ⟨b, o, none⟩) rows.length c' ∧ rows.length ≤ c' ∧ e.frozen m b ∧ RRows e e.w0 b o s rows [] := by
      rw [hd] at hv
      cases m
      · exact absurd rfl hm
      · simp only [RV] at hv; exact hv.2
      · simp only [RV] at hv; exact hv.2
    rcases hv' with ⟨rfl, a, c', rfl, _⟩ | ⟨b, o', c', rfl, _, hfr, hr⟩
    · refine ⟨rfl, [], ⟨rfl, rfl⟩, fun w' _ => ?_⟩
      cases a <;> simp [Builtin.firstCells, loadCells, loadCellsFrom]
    · obtain ⟨vals, g1, g2⟩ := rows_FlatV hr
      refine ⟨rfl, vals, g1, fun w' hw => ?_⟩
      simp only [Builtin.firstCells]
      refine run_loadCells (FlatV_length g1) (fun j hj => ?_)
      rw [hw.1 _ (Env.frozen_or hfr), hk.frozen_cell (Env.frozen_or hfr)]
      exact g2 j (by rw [FlatV_length g1]; exact hj)
  unfold srcA at hs
  split at hs
  · rename_i hd
    simp only [Option.some.injEq, Prod.mk.injEq] at hs
    obtain ⟨rfl, rfl, rfl⟩ := hs
    simp only [RV] at hv
    obtain ⟨rfl, _⟩ := hv
    exact ⟨by simp, rfl, [], ⟨rfl, rfl⟩, fun w' _ => by simp [Builtin.firstCells]⟩
  · rename_i nm off len
    cases hl : look h nm with
    | none => simp [hl] at hs
    | some row =>
      simp only [hl, Option.map_some, Option.some.injEq, Prod.mk.injEq] at hs
      obtain ⟨rfl, rfl, rfl⟩ := hs
      obtain ⟨p1, p2, p3⟩ := hc
      have hrow := hk.rh.row nm row (hpre (nm, some row, some row) (by simp))
      have hlen : ((row.2.drop off).take len).length = len := by simp; omega
      refine ⟨by simp, ?_⟩
      rw [hlen]
      rcases ns_at hrow hv with ⟨_, q1, rfl, rfl, aa, rfl⟩ | ⟨q, A, Lr, hq, q1, q2, q3, q4, q5, rfl, q7⟩
      · rw [q1]
        exact ⟨rfl, [], ⟨rfl, rfl⟩, fun w' _ => by cases aa <;> simp [Builtin.firstCells, loadCells, loadCellsFrom]⟩
      · have h0 : row.2 = row.2.take off ++ ((row.2.drop off).take len ++ row.2.drop (off + len)) := by
          rw [← List.drop_drop, List.take_append_drop, List.take_append_drop]
        have q3' := q3
        rw [h0] at q3'
        obtain ⟨M1, M2, _, h2, _⟩ := (RRows_append _ _).1 q3'
        obtain ⟨M3, M4, h3, _, _⟩ := (RRows_append _ _).1 h2
        rw [List.length_take, Nat.min_eq_left (by omega)] at h3
        obtain ⟨vals, g1, g2⟩ := rows_FlatV h3
        have hM := free_FlatV p3 g1
        subst hM
        rw [q1, p1] at g1
        refine ⟨rfl, vals, g1, fun w' hw => ?_⟩
        simp only [Builtin.firstCells]
        by_cases hz : len = 0
        · subst hz
          have : vals = [] := by
            have := FlatV_length g1
            simpa using this
          subst this
          simp [loadCells, loadCellsFrom]
        · have hroom : off < q.cap := by omega
          rw [q7 hroom]
          have hlv := FlatV_length g1
          rw [hlen] at hlv
          refine run_loadCells hlv (fun j hj => ?_)
          rw [cell_of_heap (hw.2 (nm, some row, some row) (by simp) q hq)]
          exact g2 j (by rw [hlv]; exact hj)
  · exact frozen .bw _ _ (by simp) rfl hs
  · exact frozen .fz _ _ (by simp) rfl hs
  · simp at hs

end
end Go.Sep
