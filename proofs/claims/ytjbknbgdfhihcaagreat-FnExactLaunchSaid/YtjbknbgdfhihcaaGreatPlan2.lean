/- The executor of symbolic states: the texts App App2 Clear Plan Plan2, one after the other. No condition. -/
import Derived.Test.YtjbknbgdfhihcaaGreatStore
import Derived.Laws.Append
import Derived.Laws.BytesString
/- append: the row goes, a new one takes its place: in the old block, or in a new one. -/
namespace Go.Sep
set_option linter.unusedVariables false
set_option linter.unusedSimpArgs false

/-- A row of ours goes (D), a new one (nx) comes, beside rows that are read. -/
theorem Turns.move {e : Env} {L0 : List Nat} {H : Nat → Option Row} {Lf : Nat → List Nat} {A : Nat → Prop} {rd dl : FP} {nx : Nat} {row' : Row} {w' : World} {s' : Spot} {L' : List Nat} (hk : Ok e L0 H Lf)
    (hbh : ∀ nm row, H nm = some row → bndr A row.2) (hrd : ∀ x ∈ rd, x.2.2 = x.2.1) (hpre : ∀ x ∈ rd ++ dl, H x.1 = x.2.1) (hdl : ∀ x ∈ dl, x.2.2 = none) (hapart : ∀ x ∈ rd, x.1 ∉ dl.map (·.1)) (hnone : H nx = none) (hnA : ¬ A nx)
    (hnx : nx ∉ rd.map (·.1) ∧ nx ∉ dl.map (·.1)) (hs : e.w.heap.size ≤ w'.heap.size) (hio : SameIo e.w w')
    (hw : ∀ c, c < e.w.heap.size → (∀ n ∈ dl.map (·.1), H n ≠ none → c ∉ Lf n) → w'.heap[c]? = e.w.heap[c]?)
    (hr : ∀ e' : Env, e'.w = w' → e'.φ nx = s' → Keeps e e' A [] → RowSp e' s' row' L') (hnd : L'.Nodup)
    (hsub : ∀ b ∈ L', b < w'.heap.size ∧ (e.w.heap.size ≤ b ∨ ∃ n ∈ dl.map (·.1), H n ≠ none ∧ b ∈ Lf n)) :
    ∃ e' Lf', e'.w = w' ∧ e'.φ nx = s' ∧ (∀ nm, A nm → e'.φ nm = e.φ nm ∨ e'.φ nm = .dead) ∧
      Turns e H Lf (fun n => n ∈ (rd ++ dl ++ [(nx, none, some row')] : FP).map (·.1)) e' (upH H (rd ++ dl ++ [(nx, none, some row')])) Lf' := by
  classical
  let e' : Env := { e with w := w', φ := fun n => if n = nx then s' else if n ∈ dl.map (·.1) then .dead else e.φ n }
  have φx : e'.φ nx = s' := if_pos rfl
  have φd : ∀ n, n ≠ nx → n ∈ dl.map (·.1) → e'.φ n = .dead := fun n h1 h2 => by
    show (if n = nx then _ else if n ∈ dl.map (·.1) then _ else _) = _
    rw [if_neg h1, if_pos h2]
  have φn : ∀ n, n ≠ nx → n ∉ dl.map (·.1) → e'.φ n = e.φ n := fun n h1 h2 => by
    show (if n = nx then _ else if n ∈ dl.map (·.1) then _ else _) = _
    rw [if_neg h1, if_neg h2]
  have hA : ∀ nm, A nm → e'.φ nm = e.φ nm ∨ e'.φ nm = .dead := fun nm h => by
    have h1 : nm ≠ nx := fun he => hnA (he ▸ h)
    by_cases h2 : nm ∈ dl.map (·.1)
    · exact .inr (φd nm h1 h2)
    · exact .inl (φn nm h1 h2)
  have hHd : ∀ (dl : FP) (H : Nat → Option Row), (∀ x ∈ dl, x.2.2 = none) → ∀ n, upH H dl n = if n ∈ dl.map (·.1) then none else H n := by
    intro dl
    induction dl with
    | nil => intro H _ n; rfl
    | cons x dl ih =>
      obtain ⟨m, q, r⟩ := x
      intro H hd n
      have hr : r = none := hd (m, q, r) (by simp)
      subst hr
      simp only [upH]
      rw [ih _ (fun x hx => hd x (by simp [hx]))]
      by_cases h1 : n ∈ dl.map (·.1)
      · simp [h1]
      · by_cases h2 : n = m <;> simp [h1, h2]
  have hH : ∀ n, upH H (rd ++ dl ++ [(nx, none, some row')]) n = if n = nx then some row' else if n ∈ dl.map (·.1) then none else H n := by
    intro n
    rw [upH_append, upH_append, upH_same (fun x hx => hpre x (by simp [hx])) hrd]
    show (if n = nx then some row' else upH H dl n) = _
    rw [hHd dl H hdl]
  have memF : ∀ n, n ∈ (rd ++ dl ++ [(nx, none, some row')] : FP).map (·.1) ↔ n ∈ rd.map (·.1) ∨ n ∈ dl.map (·.1) ∨ n = nx := by
    intro n; simp [List.mem_append]
  have hdead : ∀ x ∈ dl, H x.1 = x.2.1 := fun x hx => hpre x (by simp [hx])
  have keepL : ∀ nm, H nm ≠ none → nm ∉ dl.map (·.1) → ∀ b ∈ Lf nm, w'.heap[b]? = e.w.heap[b]? := fun nm hn hd b hb =>
    hw b (hk.rh.blk nm hn b hb).1 (fun n hn2 hne => hk.rh.dis nm n hn hne (fun he => hd (he ▸ hn2)) b hb)
  have kp : ∀ L : List Nat, (∀ b ∈ L, w'.heap[b]? = e.w.heap[b]?) → Keeps e e' A L := fun L hL => {
    num := rfl
    fr := fun m b h => by cases m <;> exact h
    cells := fun b _ o => rfl
    φ := hA
    own := hL }
  refine ⟨e', fun n => if n = nx then L' else Lf n, rfl, φx, hA, ?_⟩
  refine { num := rfl, w0 := rfl, Fr := rfl, Bo := rfl, io := hio, size := hs, keep := ?_, φ := ?_, φF := ?_, rest := ?_, row := ?_, nodup := ?_, blk := ?_, dis := ?_, dead := ?_ }
  · intro c hc h
    exact hw c hc (fun n hn hne => h n ((memF n).2 (.inr (.inl hn))) hne)
  · intro nm hF
    exact φn nm (fun he => hF ((memF nm).2 (.inr (.inr he)))) (fun hd => hF ((memF nm).2 (.inr (.inl hd))))
  · intro nm _ hne
    have h1 : nm ≠ nx := fun he => hne (he ▸ hnone)
    by_cases h2 : nm ∈ dl.map (·.1)
    · exact .inr (φd nm h1 h2)
    · exact .inl (φn nm h1 h2)
  · intro nm hF
    rw [hH, if_neg (fun he => hF ((memF nm).2 (.inr (.inr he)))), if_neg (fun hd => hF ((memF nm).2 (.inr (.inl hd))))]
  · intro nm row _ hrow
    rw [hH] at hrow
    by_cases h1 : nm = nx
    · subst h1
      rw [if_pos rfl] at hrow
      simp only [Option.some.injEq] at hrow
      subst hrow
      simp only [if_true]
      unfold RowAt
      rw [φx]
      exact hr e' rfl φx (kp [] (by simp))
    · rw [if_neg h1] at hrow
      simp only [if_neg h1]
      by_cases h2 : nm ∈ dl.map (·.1)
      · rw [if_pos h2] at hrow; simp at hrow
      · rw [if_neg h2] at hrow
        exact (hk.rh.row nm row hrow).keep (kp _ (keepL nm (by simp [hrow]) h2)) (φn nm h1 h2) (hbh nm row hrow)
  · intro nm _ hne
    rw [hH] at hne
    by_cases h1 : nm = nx
    · simpa [h1] using hnd
    · rw [if_neg h1] at hne
      simp only [if_neg h1]
      by_cases h2 : nm ∈ dl.map (·.1)
      · rw [if_pos h2] at hne; exact absurd rfl hne
      · rw [if_neg h2] at hne; exact hk.rh.nodup nm hne
  · intro nm hF hne b hb
    rw [hH] at hne
    by_cases h1 : nm = nx
    · simp only [if_pos h1] at hb
      obtain ⟨g1, g2⟩ := hsub b hb
      refine ⟨g1, g2.imp id ?_⟩
      rintro ⟨n, hn, g3, g4⟩
      exact ⟨n, (memF n).2 (.inr (.inl hn)), g3, g4⟩
    · rw [if_neg h1] at hne
      simp only [if_neg h1] at hb
      by_cases h2 : nm ∈ dl.map (·.1)
      · rw [if_pos h2] at hne; exact absurd rfl hne
      · rw [if_neg h2] at hne
        exact ⟨Nat.lt_of_lt_of_le (hk.rh.blk nm hne b hb).1 hs, .inr ⟨nm, hF, hne, hb⟩⟩
  · have key : ∀ m, m ≠ nx → m ∉ dl.map (·.1) → H m ≠ none → ∀ b, b ∈ L' → b ∈ Lf m → False := by
      intro m h1 h2 hne b hb hb2
      obtain ⟨_, g2 | ⟨n, hn, g3, g4⟩⟩ := hsub b hb
      · have := (hk.rh.blk m hne b hb2).1; omega
      · exact hk.rh.dis n m g3 hne (fun he => h2 (he ▸ hn)) b g4 hb2
    intro n m _ _ hn hm hne b hb1 hb2
    rw [hH] at hn hm
    by_cases h1 : n = nx <;> by_cases h2 : m = nx
    · exact hne (h1.trans h2.symm)
    · simp only [if_pos h1, if_neg h2] at hb1 hb2 hm
      by_cases h3 : m ∈ dl.map (·.1)
      · rw [if_pos h3] at hm; exact hm rfl
      · rw [if_neg h3] at hm; exact key m h2 h3 hm b hb1 hb2
    · simp only [if_pos h2, if_neg h1] at hb1 hb2 hn
      by_cases h3 : n ∈ dl.map (·.1)
      · rw [if_pos h3] at hn; exact hn rfl
      · rw [if_neg h3] at hn; exact key n h1 h3 hn b hb2 hb1
    · simp only [if_neg h1, if_neg h2] at hb1 hb2 hn hm
      by_cases h3 : n ∈ dl.map (·.1)
      · rw [if_pos h3] at hn; exact hn rfl
      · by_cases h4 : m ∈ dl.map (·.1)
        · rw [if_pos h4] at hm; exact hm rfl
        · rw [if_neg h3] at hn; rw [if_neg h4] at hm
          exact hk.rh.dis n m hn hm hne b hb1 hb2
  · intro nm _ hno
    rw [hH] at hno
    by_cases h1 : nm = nx
    · simp [h1] at hno
    · rw [if_neg h1] at hno
      by_cases h2 : nm ∈ dl.map (·.1)
      · exact φd nm h1 h2
      · rw [if_neg h2] at hno
        rw [φn nm h1 h2]
        exact hk.rh.dead nm hno

theorem free_FlatV {e : Env} {sz : Nat} : ∀ {rows : List (List AV)} {vs : List Value} {L : List Nat}, free rows → FlatV e sz rows vs L → L = []
  | [], _, _, _, h => by simp only [FlatV] at h; exact h.2
  | r :: rs, vs, L, hf, h => by
    simp only [FlatV] at h
    obtain ⟨v1, v2, L1, L2, rfl, h1, h2, h3, rfl⟩ := h
    have g1 : L1 = [] := by
      have key : ∀ (l : List AV) (us : List Value) (M : List Nat), (∀ c ∈ l, isOwn c = false) → l.all cellOk = true → RVs e l us M → M = [] := by
        intro l
        induction l with
        | nil => intro us M _ _ h; simp only [RVs] at h; exact h.2
        | cons c l ih =>
          intro us M hfc hok h
          simp only [RVs] at h
          obtain ⟨v, vs', M1, M2, rfl, k1, k2, rfl⟩ := h
          simp only [List.all_cons, Bool.and_eq_true] at hok
          have := cell_free hok.1 (fun sz rows he => by have := hfc c (by simp); rw [he] at this; simp [isOwn] at this) k1
          rw [this, ih vs' M2 (fun x hx => hfc x (by simp [hx])) hok.2 k2]
          rfl
      exact key r v1 L1 (fun c hc => hf r (by simp) c hc) h1.2 h2
    rw [g1, free_FlatV (fun x hx => hf x (by simp [hx])) h3]
    rfl

section
variable {P : Program} {num : Nat → Nat} {o : Oper} {ρ : Nat → AV} {h : Heap} {nx nx' : Nat} {p : Prop} {v : AV} {fp : FP}

/-- What is appended: its length and its cells, and that they own nothing. -/
theorem src_run {h : Heap} {e : Env} {L0 : List Nat} {H : Nat → Option Row} {Lf : Nat → List Nat} {sz : Nat} {d : AV} {c : Value} {cond : Prop} {xs : List (List AV)} {rd : FP} (hk : Ok e L0 H Lf) (hs : srcA h sz d = some (cond, xs, rd)) (hc : cond)
    (hpre : ∀ x ∈ rd, H x.1 = x.2.1) (hv : RV e d c []) : (∀ x ∈ rd, x.2.2 = x.2.1) ∧ Builtin.lenOf c = pure xs.length ∧ ∃ vals, FlatV e sz xs vals [] ∧
      ∀ w' : World, Same e rd w' → (Builtin.firstCells sz xs.length c).run P w' = .ok vals.toArray w' := by
  have frozen : ∀ (m : Mode) (s : Nat) (rows : List (List AV)), m ≠ .own → d = .sl m s rows → some (s = sz ∧ free rows, rows, ([] : FP)) = some (cond, xs, rd) → (∀ x ∈ rd, x.2.2 = x.2.1) ∧ Builtin.lenOf c = pure xs.length ∧ ∃ vals, FlatV e sz xs vals [] ∧
      ∀ w' : World, Same e rd w' → (Builtin.firstCells sz xs.length c).run P w' = .ok vals.toArray w' := by
    intro m s rows hm hd hs
    simp only [Option.some.injEq, Prod.mk.injEq] at hs
    obtain ⟨rfl, rfl, rfl⟩ := hs
    obtain ⟨rfl, hf⟩ := hc
    refine ⟨by simp, ?_⟩
    have hv' : (rows = [] ∧ ∃ a c', c = .slice a 0 c' ∧ (a = none → c' = 0)) ∨ ∃ b o c', c = .slice (some ⟨b, o, none⟩) rows.length c' ∧ rows.length ≤ c' ∧ e.frozen m b ∧ RRows e e.w0 b o s rows [] := by
      rw [hd] at hv
      cases m
      · exact absurd rfl hm
      · simp only [RV] at hv; exact hv.2
      · simp only [RV] at hv; exact hv.2
    rcases hv' with ⟨rfl, a, c', rfl, _⟩ | ⟨b, o', c', rfl, _, hfr, hr⟩
    · refine ⟨rfl, [], ⟨rfl, rfl⟩, fun w' _ => ?_⟩
      cases a <;> simp [Builtin.firstCells, loadCells, loadCellsFrom]
    · obtain ⟨vals, g1, g2⟩ := rows_FlatV hr
      refine ⟨rfl, vals, g1, fun w' hw => ?_⟩
      simp only [Builtin.firstCells]
      refine run_loadCells (FlatV_length g1) (fun j hj => ?_)
      rw [hw.1 _ (Env.frozen_or hfr), hk.frozen_cell (Env.frozen_or hfr)]
      exact g2 j (by rw [FlatV_length g1]; exact hj)
  unfold srcA at hs
  split at hs
  · rename_i hd
    simp only [Option.some.injEq, Prod.mk.injEq] at hs
    obtain ⟨rfl, rfl, rfl⟩ := hs
    simp only [RV] at hv
    obtain ⟨rfl, _⟩ := hv
    exact ⟨by simp, rfl, [], ⟨rfl, rfl⟩, fun w' _ => by simp [Builtin.firstCells]⟩
  · rename_i nm off len
    cases hl : look h nm with
    | none => simp [hl] at hs
    | some row =>
      simp only [hl, Option.map_some, Option.some.injEq, Prod.mk.injEq] at hs
      obtain ⟨rfl, rfl, rfl⟩ := hs
      obtain ⟨p1, p2, p3⟩ := hc
      have hrow := hk.rh.row nm row (hpre (nm, some row, some row) (by simp))
      have hlen : ((row.2.drop off).take len).length = len := by simp; omega
      refine ⟨by simp, ?_⟩
      rw [hlen]
      rcases ns_at hrow hv with ⟨_, q1, rfl, rfl, aa, rfl⟩ | ⟨q, A, Lr, hq, q1, q2, q3, q4, q5, rfl, q7⟩
      · rw [q1]
        exact ⟨rfl, [], ⟨rfl, rfl⟩, fun w' _ => by cases aa <;> simp [Builtin.firstCells, loadCells, loadCellsFrom]⟩
      · have h0 : row.2 = row.2.take off ++ ((row.2.drop off).take len ++ row.2.drop (off + len)) := by
          rw [← List.drop_drop, List.take_append_drop, List.take_append_drop]
        have q3' := q3
        rw [h0] at q3'
        obtain ⟨M1, M2, _, h2, _⟩ := (RRows_append _ _).1 q3'
        obtain ⟨M3, M4, h3, _, _⟩ := (RRows_append _ _).1 h2
        rw [List.length_take, Nat.min_eq_left (by omega)] at h3
        obtain ⟨vals, g1, g2⟩ := rows_FlatV h3
        have hM := free_FlatV p3 g1
        subst hM
        rw [q1, p1] at g1
        refine ⟨rfl, vals, g1, fun w' hw => ?_⟩
        simp only [Builtin.firstCells]
        by_cases hz : len = 0
        · subst hz
          have : vals = [] := by
            have := FlatV_length g1
            simpa using this
          subst this
          simp [loadCells, loadCellsFrom]
        · have hroom : off < q.cap := by omega
          rw [q7 hroom]
          have hlv := FlatV_length g1
          rw [hlen] at hlv
          refine run_loadCells hlv (fun j hj => ?_)
          rw [cell_of_heap (hw.2 (nm, some row, some row) (by simp) q hq)]
          exact g2 j (by rw [hlv]; exact hj)
  · exact frozen .bw _ _ (by simp) rfl hs
  · exact frozen .fz _ _ (by simp) rfl hs
  · simp at hs

end
end Go.Sep

/- append, whole. -/
namespace Go.Sep
set_option linter.unusedVariables false
set_option linter.unusedSimpArgs false

section
variable {P : Program} {num : Nat → Nat} {o : Oper} {ρ : Nat → AV} {h : Heap} {nx nx' : Nat} {p : Prop} {v : AV} {fp : FP}

theorem mem_free {A : Nat → Prop} {sz : Nat} {d : AV} {cond : Prop} {xs : List (List AV)} {rd : FP} {H : Nat → Option Row} (hs : srcA h sz d = some (cond, xs, rd)) (hb : bnd A d) (hbh : ∀ nm row, H nm = some row → bndr A row.2) (hpre : ∀ x ∈ rd, H x.1 = x.2.1) : bndr A xs := by
  unfold srcA at hs
  split at hs
  · simp only [Option.some.injEq, Prod.mk.injEq] at hs
    obtain ⟨_, rfl, _⟩ := hs
    trivial
  · rename_i nm off len
    cases hl : look h nm with
    | none => simp [hl] at hs
    | some row =>
      simp only [hl, Option.map_some, Option.some.injEq, Prod.mk.injEq] at hs
      obtain ⟨_, rfl, rfl⟩ := hs
      have := hbh nm row (hpre (nm, some row, some row) (by simp))
      exact bndr_iff.2 fun r hr => bndr_iff.1 this r (List.mem_of_mem_drop (List.mem_of_mem_take hr))
  · simp only [Option.some.injEq, Prod.mk.injEq] at hs
    obtain ⟨_, rfl, _⟩ := hs
    exact hb
  · simp only [Option.some.injEq, Prod.mk.injEq] at hs
    obtain ⟨_, rfl, _⟩ := hs
    exact hb
  · simp at hs

theorem src_pre {sz : Nat} {d : AV} {cond : Prop} {xs : List (List AV)} {rd : FP} {r : Nat × Option Row × Option Row} (hs : srcA h sz d = some (cond, xs, rd)) (hr : r ∈ rd) : r.2.1 ≠ none := by
  unfold srcA at hs
  split at hs
  · simp only [Option.some.injEq, Prod.mk.injEq] at hs
    obtain ⟨_, _, rfl⟩ := hs
    simp at hr
  · rename_i nm off len
    cases hl : look h nm with
    | none => simp [hl] at hs
    | some row =>
      simp only [hl, Option.map_some, Option.some.injEq, Prod.mk.injEq] at hs
      obtain ⟨_, _, rfl⟩ := hs
      simp only [List.mem_singleton] at hr
      subst hr
      simp
  · simp only [Option.some.injEq, Prod.mk.injEq] at hs
    obtain ⟨_, _, rfl⟩ := hs
    simp at hr
  · simp only [Option.some.injEq, Prod.mk.injEq] at hs
    obtain ⟨_, _, rfl⟩ := hs
    simp at hr
  · simp at hs

theorem cut_ge (need old el t : Nat) : need ≤ (Question.appendCap need old el).cut t := by simp [Question.cut]

/-- The model's append, where the row has no room. -/
theorem run_append_new {w : World} {t u ty el el' : TypeId} {i : TypeInfo} {z c : Value} {sb : Option Addr} {sLen sCap n : Nat} {olds news : List Value} (ht : P.underlying t = some (.slice el)) (hu : P.underlying u = some (.slice el'))
    (hi : P.info? el = some i) (hz : i.zero = some z) (hn : Builtin.lenOf c = pure n) (hfo : ∀ w' : World, w'.heap = w.heap → (Builtin.firstCells i.size sLen (.slice sb sLen sCap)).run P w' = .ok olds.toArray w')
    (hfn : ∀ w' : World, w'.heap = w.heap → (Builtin.firstCells i.size n c).run P w' = .ok news.toArray w') (hg : sCap < sLen + n) (h47 : sLen + n ≤ 2 ^ 47) (hb : i.bytes * (sLen + n) ≤ 2 ^ 47) :
    ∃ cap, sLen + n ≤ cap ∧ (Builtin.append_ #[t, u] ty #[.slice sb sLen sCap, c]).run P w =
      .ok (.slice (some ⟨w.heap.size, 0, none⟩) (sLen + n) cap) (w.drew.alloc (.cells (olds.toArray ++ news.toArray ++ Builtin.zeroCells z.cells (cap - (sLen + n))) el)) := by
  have h0 : ¬ (sLen + n ≤ sCap) := by omega
  have h63 : ¬ (((sLen + n : Nat) : Int) > IntKind.i64.max ∧ ((false : Bool) = true ∨ i.bytes = 0)) := by
    have : IntKind.i64.max = 9223372036854775807 := by decide
    rw [this]; omega
  have h48 : ¬ (Builtin.nextslicecap (sLen + n) sCap * i.bytes > 2 ^ 48) := by
    have h1 := Nat.mul_le_mul_right i.bytes (nextslicecap_le hg)
    have h2 : 2 * (sLen + n) * i.bytes = 2 * (i.bytes * (sLen + n)) := by rw [Nat.mul_assoc, Nat.mul_comm (sLen + n)]
    omega
  refine ⟨(Question.appendCap (sLen + n) sCap el).cut (w.tape w.drawn (.appendCap (sLen + n) sCap el)), cut_ge _ _ _ _, ?_⟩
  have hq : (Question.appendCap (sLen + n) sCap el).forced = false := rfl
  unfold Builtin.append_
  simp only [List.getElem?_toArray, List.getElem?_cons_zero, List.getElem?_cons_succ, Sem.run_bind, run_underlying' ht, run_underlying' hu, Result.andThen_ok, run_sizeOf' hi, Sem.run_pure, hn, Bool.not_false, if_true, Bool.false_eq_true, if_false]
  rw [if_neg h0]
  simp only [Sem.run_bind, run_typeInfo' hi, Result.andThen_ok]
  have h63' : ¬ ((((sLen + n : Nat) : Int) > IntKind.i64.max ∧ (False ∨ i.bytes = 0))) := by simpa using h63
  rw [if_neg h63']
  simp only [Sem.run_bind, run_typeInfo' hi, Result.andThen_ok]
  rw [if_neg h48]
  simp only [Sem.run_bind, run_choose, hq, Bool.false_eq_true, if_false, Result.andThen_ok, run_askRoom, run_typeInfo' hi]
  rw [World.drew_eq, hfo w.drew rfl]
  simp only [Result.andThen_ok]
  rw [hfn w.drew rfl]
  simp only [Result.andThen_ok, run_zeroValue' hi hz]
  rw [run_newRow]
  rfl

/-- The model's append, where the row has room. -/
theorem run_append_room' {w : World} {t u ty el el' : TypeId} {i : TypeInfo} {c : Value} {b o' sLen sCap n : Nat} {a : Addr} {news : List Value} {arr : Array Value} {ety : TypeId} (ht : P.underlying t = some (.slice el)) (hu : P.underlying u = some (.slice el'))
    (hi : P.info? el = some i) (hn : Builtin.lenOf c = pure n) (hfn : (Builtin.firstCells i.size n c).run P w = .ok news.toArray w) (hg : sLen + n ≤ sCap) (ha : 0 < sCap → a = ⟨b, o', none⟩)
    (hl : news.length = n * i.size) (h1 : ∀ v ∈ news, v.oneCell' = true) (hb : w.heap[b]? = some (.cells arr ety (0, 0))) (hroom : o' + sLen * i.size + news.length ≤ arr.size) :
    (Builtin.append_ #[t, u] ty #[.slice (some a) sLen sCap, c]).run P w = .ok (.slice (some a) (sLen + n) sCap) (World.setBlk w b (.cells (arrSet arr (o' + sLen * i.size) news) ety (0, 0))) := by
  unfold Builtin.append_
  simp only [List.getElem?_toArray, List.getElem?_cons_zero, List.getElem?_cons_succ, Sem.run_bind, run_underlying' ht, run_underlying' hu, Result.andThen_ok, run_sizeOf' hi, Sem.run_pure, hn, Bool.not_false, if_true, Bool.false_eq_true, if_false]
  rw [if_pos hg]
  simp only [Sem.run_bind, hfn, Result.andThen_ok]
  by_cases h0 : 0 < sCap
  · rw [ha h0]
    simp only [add_mk]
    rw [run_storeCells news w (o' + sLen * i.size) 0 arr hb h1 (by simpa using hroom)]
    simp
  · have hn0 : n = 0 := by omega
    subst hn0
    have : news = [] := by simpa using hl
    subst this
    have hid : World.setBlk w b (.cells (arrSet arr (o' + sLen * i.size) []) ety (0, 0)) = w := by
      have h1 := (Array.getElem?_eq_some_iff.1 hb).1
      have h2 := (Array.getElem?_eq_some_iff.1 hb).2
      unfold World.setBlk arrSet
      congr 1
      apply Array.ext_getElem?
      intro k
      by_cases hk : b = k
      · subst hk; simp [h1, h2]
      · simp [Array.getElem?_setIfInBounds_ne hk]
    rw [hid]
    simp [storeCells]

theorem run_append_zero {w : World} {t u ty el el' : TypeId} {i : TypeInfo} {c : Value} {aa : Option Addr} (ht : P.underlying t = some (.slice el)) (hu : P.underlying u = some (.slice el')) (hi : P.info? el = some i) (hn : Builtin.lenOf c = pure 0)
    (hfn : (Builtin.firstCells i.size 0 c).run P w = .ok #[] w) : (Builtin.append_ #[t, u] ty #[.slice aa 0 0, c]).run P w = .ok (.slice aa 0 0) w := by
  unfold Builtin.append_
  simp only [List.getElem?_toArray, List.getElem?_cons_zero, List.getElem?_cons_succ, Sem.run_bind, run_underlying' ht, run_underlying' hu, Result.andThen_ok, run_sizeOf' hi, Sem.run_pure, hn, Bool.not_false, if_true, Bool.false_eq_true, if_false]
  rw [if_pos (by omega)]
  cases aa <;> simp [hfn, storeCells]

theorem free_rows {e : Env} {W : World} {b o' sz : Nat} {rows : List (List AV)} {L : List Nat} (h : RRows e W b o' sz rows L) : ∃ vs, FlatV e sz rows vs L ∧ vs.length = rows.length * sz ∧ ∀ j, j < vs.length → W.cell? ⟨b, o' + j, none⟩ = vs[j]? := by
  obtain ⟨vs, h1, h2⟩ := rows_FlatV h
  exact ⟨vs, h1, FlatV_length h1, h2⟩

theorem FlatV_ok {e : Env} {sz : Nat} : ∀ {rows : List (List AV)} {vs : List Value} {L : List Nat}, FlatV e sz rows vs L → ∀ v ∈ vs, v.oneCell' = true
  | [], _, _, h => by simp only [FlatV] at h; simp [h.1]
  | r :: rs, _, _, h => by
    simp only [FlatV] at h
    obtain ⟨v1, v2, L1, L2, rfl, h1, h2, h3, rfl⟩ := h
    intro v hv
    rcases List.mem_append.1 hv with hv | hv
    · exact cells_one h1.2 h2 v hv
    · exact FlatV_ok h3 v hv

theorem RV_ns_at {e : Env} {nm len : Nat} {q : Place} {a : Addr} {c : Nat} (hq : e.φ nm = .at q) (hc : c = q.cap) (hl : len ≤ q.cap) (ha : 0 < q.cap → a = ⟨q.block, q.off, none⟩) : RV e (.ns nm 0 len) (.slice (some a) len c) [] := by
  subst hc
  simp only [RV, hq, true_and]
  exact ⟨by omega, a, by simp, fun h => by rw [ha h]; simp⟩

theorem tri_app {sz bytes : Nat} {s x : Arg} (hc : chkOp P num (.app sz bytes s x) o.op = true) (hp : plan ρ h nx (.app sz bytes s x) = some (p, v, fp, nx')) (hpp : p) (hnx : ∀ nm row, look h nm = some row → nm ≠ nx) : Tri P num o ρ v fp := by
  simp only [chkOp] at hc
  split at hc
  · rename_i args tys hop
    split at hc
    · rename_i y u t ut ha ht1 ht2
      simp only [Bool.and_eq_true] at hc
      obtain ⟨⟨⟨c1, c2⟩, c3⟩, c4⟩ := hc
      obtain ⟨el', hel'⟩ := Option.isSome_iff_exists.1 c3
      cases hel : elemOf? P t with
      | none => simp [hel] at c4
      | some el =>
        simp only [hel, Bool.and_eq_true] at c4
        obtain ⟨⟨c5, c6⟩, c7⟩ := c4
        obtain ⟨i, hi, his⟩ := sizeIs_some c5
        obtain ⟨i', hi', hib⟩ := bytesIs_some c6
        rw [hi] at hi'
        simp only [Option.some.injEq] at hi'
        subst hi'
        simp only [hi] at c7
        cases hz : i.zero with
        | none => simp [hz] at c7
        | some z =>
          simp only [hz, beq_iff_eq] at c7
          have hut := elemOf_some hel
          have huu := elemOf_some hel'
          have hargs : args = #[y, u] := Array.toList_inj.1 ha
          subst hargs
          have hexec : ∀ (a : Act) (w w' : World) (v : Value), (Builtin.append_ tys o.type #[a.eval y, a.eval u]).run P w = .ok v w' → (execOp a.eval o).run P w = .ok (.value v) w' := by
            intro a w w' v hr
            simp [execOp, hop, resolve, invoke, builtin, hr]
          have happ : ∀ (ty : TypeId) (s c : Value) (w : World), (Builtin.append_ tys ty #[s, c]).run P w = (Builtin.append_ #[t, ut] ty #[s, c]).run P w := by
            intro ty s c w
            unfold Builtin.append_
            simp only [ht1, ht2, List.getElem?_toArray, List.getElem?_cons_zero, List.getElem?_cons_succ]
          simp only [plan] at hp
          cases hsrc : srcA h sz (x.ev ρ) with
          | none => simp [hsrc] at hp
          | some r =>
            obtain ⟨cond, xs, rd⟩ := r
            simp only [hsrc, Option.bind_some] at hp
            -- a new row, whatever was there before
            have newrow : ∀ (e : Env) (L0 : List Nat) (H : Nat → Option Row) (Lf : Nat → List Nat) (A : Nat → Prop) (a : Act) (K : Act → World → Prop) (Q : Exit → Act → World → Prop) (dl : FP) (old : List (List AV)) (olds : List Value) (Lo : List Nat) (sb : Option Addr) (sLen sCap : Nat),
                e.num = num → Ok e L0 H Lf → (∀ x ∈ rd ++ dl, H x.1 = x.2.1) → H nx = none → ¬ A nx → (∀ x ∈ dl, x.2.2 = none) → (∀ x ∈ rd, x.1 ∉ dl.map (·.1)) → nx ∉ rd.map (·.1) → nx ∉ dl.map (·.1) → (∀ t, bnd A (ρ t)) → (∀ nm row, H nm = some row → bndr A row.2) →
                (∀ t, RV e (ρ t) (a.tmps.getD t undef) []) → cond → 0 < sz → bytes * (old.length + xs.length) ≤ 2 ^ 47 → old.length + xs.length ≤ 2 ^ 47 → a.eval y = .slice sb sLen sCap → sLen = old.length → sCap < sLen + xs.length → bndr A old → FlatV e sz old olds Lo → Lo.Nodup →
                (∀ b ∈ Lo, b < e.w.heap.size ∧ ∃ n ∈ dl.map (·.1), H n ≠ none ∧ b ∈ Lf n) → (∀ b ∈ Lo, ∀ m ∈ dl.map (·.1), b ∈ Lf m → True) →
                (∀ w' : World, w'.heap = e.w.heap → (Builtin.firstCells i.size sLen (.slice sb sLen sCap)).run P w' = .ok olds.toArray w') →
                (∀ e' Lf' v', Turns e H Lf (fun n => n ∈ (rd ++ dl ++ [(nx, none, some (sz, old ++ xs))] : FP).map (·.1)) e' (upH H (rd ++ dl ++ [(nx, none, some (sz, old ++ xs))])) Lf' → RV e' (.ns nx 0 (old.length + xs.length)) v' [] → K (a.put o.dst v') e'.w) →
                o.wp P a e.w K Q := by
              intro e L0 H Lf A a K Q dl old olds Lo sb sLen sCap hn hk hpre hnone hnA hdl hapart hn1 hn2 hbt hbh ht hcond hsz hb47 h47 hy hsl hlt hbo hfo hnd hLo _ hrf k
              subst hn
              have g2 := RV_arg (ρ := ρ) ht c2
              obtain ⟨s1, s2, vals, s3, s4⟩ := src_run hk hsrc hcond (fun x hx => hpre x (by simp [hx])) g2
              subst hsl
              rw [← his] at s3 s4
              obtain ⟨cap, k1, k2⟩ := run_append_new (ty := o.type) (w := e.w) hut huu hi hz s2 hrf (fun w' hw => s4 w' (.of_heap hw)) hlt h47 (by rw [hib]; exact hb47)
              rw [his] at s3
              have hlo := FlatV_length hfo
              have hln := FlatV_length s3
              refine wp_value (hexec a e.w _ _ (by rw [hy, happ, k2])) ?_
              have hsize : (e.w.drew.alloc (.cells (olds.toArray ++ vals.toArray ++ Builtin.zeroCells z.cells (cap - (old.length + xs.length))) el)).heap.size = e.w.heap.size + 1 := by simp
              have hblk := alloc_new (w := e.w) (w1 := e.w.drew) (ob := .cells (olds.toArray ++ vals.toArray ++ Builtin.zeroCells z.cells (cap - (old.length + xs.length))) el) rfl
              have hLold : ∀ b ∈ Lo, b < e.w.heap.size := fun b hb => (hLo b hb).1
              obtain ⟨e', Lf', hw', hφ', hA', hT⟩ := Turns.move (dl := dl) (row' := (sz, old ++ xs)) (s' := .at ⟨e.w.heap.size, 0, cap, sz⟩) (L' := e.w.heap.size :: Lo) (w' := e.w.drew.alloc (.cells (olds.toArray ++ vals.toArray ++ Builtin.zeroCells z.cells (cap - (old.length + xs.length))) el))
                hk hbh s1 hpre hdl hapart hnone hnA ⟨hn1, hn2⟩ (by omega) ⟨rfl, rfl, rfl⟩ (fun c hc _ => alloc_get rfl hc) (by
                  intro e' hw' hφ' hkp
                  have hkeep : Keeps e e' A Lo := { hkp with own := fun b hb => by rw [hw']; exact alloc_get rfl (hLold b hb) }
                  refine ⟨rfl, ⟨hsz, by simp; omega, _, el, by rw [hw']; exact hblk, ?_⟩, Lo, ?_, rfl⟩
                  · simp only [Nat.zero_add, Array.size_append, List.size_toArray, hlo, hln, Builtin.zeroCells, Array.size_map, Array.size_range, c7]
                    have h1 : cap * sz = old.length * sz + xs.length * sz + (cap - (old.length + xs.length)) * sz := by
                      rw [← Nat.add_mul, ← Nat.add_mul]
                      congr 1
                      omega
                    omega
                  · have hfl : FlatV e' sz (old ++ xs) (olds ++ vals) (Lo ++ []) := FlatV_append (FlatV_keep hkeep hbo hfo) (FlatV_keep (hkeep.sub (by simp)) (mem_free hsrc (arg_bnd hbt c2) hbh (fun x hx => hpre x (by simp [hx]))) s3)
                    rw [List.append_nil] at hfl
                    refine FlatV_rows hfl (fun j hj => ?_)
                    rw [hw', cell_blk hblk, Nat.zero_add]
                    rw [Array.getElem?_append_left (by simp at hj ⊢; exact hj)]
                    simp)
                (List.nodup_cons.2 ⟨fun hm => by have := hLold _ hm; omega, hnd⟩) (by
                  intro b hb
                  rcases List.mem_cons.1 hb with rfl | hb
                  · exact ⟨by omega, .inl (Nat.le_refl _)⟩
                  · exact ⟨by have := hLold b hb; omega, .inr (hLo b hb).2⟩)
              have := k e' Lf' (.slice (some ⟨e.w.heap.size, 0, none⟩) (old.length + xs.length) cap) hT (RV_ns0 hφ' rfl (by simpa using k1))
              rw [hw'] at this
              exact this
            split at hp
            · rename_i hs
              simp only [Option.some.injEq, Prod.mk.injEq] at hp
              obtain ⟨rfl, rfl, rfl, _⟩ := hp
              obtain ⟨p1, p2, p3, p4⟩ := hpp
              intro e L0 H Lf A a K Q hn hk hpre hbt hbh hfr ht k
              have hnone : H nx = none := hpre (nx, none, some (sz, xs)) (by simp)
              have hnA : ¬ A nx := hfr (nx, none, some (sz, xs)) (by simp) rfl
              have g1 := RV_arg (e := e) (ρ := ρ) (a := a) (x := y) (y := s) ht (by rw [hn]; exact c1)
              rw [hs] at g1
              simp only [RV] at g1
              have g2 := RV_arg (e := e) (ρ := ρ) (a := a) (x := u) (y := x) ht (by rw [hn]; exact c2)
              have hn1 : nx ∉ rd.map (·.1) := by
                intro hm
                obtain ⟨r, hr, hrn⟩ := List.mem_map.1 hm
                exact src_pre hsrc hr (by rw [← hpre r (by simp [hr]), hrn, hnone])
              by_cases hx0 : xs.length = 0
              · have hxs : xs = [] := List.length_eq_zero_iff.1 hx0
                subst hxs
                obtain ⟨s1, s2, vals, s3, s4⟩ := src_run hk hsrc p1 (fun x hx => hpre x (by simp [hx])) g2
                simp only [FlatV] at s3
                obtain ⟨rfl, _⟩ := s3
                have hrun := run_append_zero (aa := none) (ty := o.type) (w := e.w) hut huu hi s2 (by have := s4 e.w (Same.refl _ _); rw [← his] at this; simpa using this)
                refine wp_value (hexec a e.w _ _ (by rw [g1.1, happ, hrun])) ?_
                obtain ⟨e', Lf', hw', hφ', hA', hT⟩ := Turns.move (dl := []) (row' := (sz, ([] : List (List AV)))) (s' := .nilp) (L' := []) (w' := e.w) hk hbh s1 (fun x hx => hpre x (by simpa using .inl (by simpa using hx))) (by simp) (by simp) hnone hnA ⟨hn1, by simp⟩ (Nat.le_refl _) (SameIo.refl _) (fun _ _ _ => rfl)
                  (fun e' _ _ _ => ⟨rfl, rfl⟩) (by simp) (by simp)
                have := k e' Lf' (.slice none 0 0) (by simpa using hT) (by simp [RV, hφ'])
                rw [hw'] at this
                exact this
              · refine newrow e L0 H Lf A a K Q [] [] [] [] none 0 0 hn hk (fun x hx => hpre x (by simpa using .inl (by simpa using hx))) hnone hnA (by simp) (by simp) hn1 (by simp) hbt hbh ht p1 p2 (by simpa using p3) (by simpa using p4) g1.1 rfl (by omega) trivial ⟨rfl, rfl⟩ (by simp) (by simp) (by simp) (fun w' _ => by simp [Builtin.firstCells]) ?_
                intro e' Lf' v' hT hv
                exact k e' Lf' v' (by simpa using hT) (by simpa using hv)
            · rename_i nm off len hs
              cases hl : look h nm with
              | none => simp [hl] at hp
              | some row =>
                simp only [hl, Option.map_some, Option.some.injEq, Prod.mk.injEq] at hp
                obtain ⟨rfl, rfl, rfl, _⟩ := hp
                obtain ⟨p1, p2, p3, p4, p5, p6, p7⟩ := hpp
                have hlen : (row.2.drop off).length = len := by simp; omega
                intro e L0 H Lf A a K Q hn hk hpre hbt hbh hfr ht k
                have hpre' : ∀ x ∈ rd ++ [(nm, some row, none)], H x.1 = x.2.1 := fun x hx => hpre x (by
                  simp only [List.mem_append, List.mem_singleton, List.mem_cons, List.not_mem_nil, or_false] at hx ⊢
                  rcases hx with hx | hx
                  · exact .inl hx
                  · exact .inr (.inl hx))
                have hnone : H nx = none := hpre (nx, none, some (sz, row.2.drop off ++ xs)) (by simp)
                have hnA : ¬ A nx := hfr (nx, none, some (sz, row.2.drop off ++ xs)) (by simp) rfl
                have hrow : H nm = some row := hpre' (nm, some row, none) (by simp)
                have hnm : nx ≠ nm := fun he => by rw [he, hrow] at hnone; simp at hnone
                have hr := hk.rh.row nm row hrow
                have hrb := hbh nm row hrow
                have g1 := RV_arg (e := e) (ρ := ρ) (a := a) (x := y) (y := s) ht (by rw [hn]; exact c1)
                rw [hs] at g1
                have g2 := RV_arg (e := e) (ρ := ρ) (a := a) (x := u) (y := x) ht (by rw [hn]; exact c2)
                obtain ⟨s1, s2, vals, s3, s4⟩ := src_run hk hsrc p1 (fun x hx => hpre' x (by simp [hx])) g2
                have hn1 : nx ∉ rd.map (·.1) := by
                  intro hm
                  obtain ⟨r, hr, hrn⟩ := List.mem_map.1 hm
                  exact src_pre hsrc hr (by rw [← hpre' r (by simp [hr]), hrn, hnone])
                have hn2 : nx ∉ ([(nm, some row, none)] : FP).map (·.1) := by simpa using hnm
                have hapart : ∀ x ∈ rd, x.1 ∉ ([(nm, some row, none)] : FP).map (·.1) := fun x hx => by simpa using p5 x hx
                have hbo : bndr A (row.2.drop off) := bndr_iff.2 fun r hr => bndr_iff.1 hrb r (List.mem_of_mem_drop hr)
                have kk : ∀ e' Lf' v', Turns e H Lf (fun n => n ∈ (rd ++ [(nm, some row, none)] ++ [(nx, none, some (sz, row.2.drop off ++ xs))] : FP).map (·.1)) e' (upH H (rd ++ [(nm, some row, none)] ++ [(nx, none, some (sz, row.2.drop off ++ xs))])) Lf' → RV e' (.ns nx 0 (len + xs.length)) v' [] → K (a.put o.dst v') e'.w := by
                  intro e' Lf' v' hT hv
                  exact k e' Lf' v' (by simpa [List.append_assoc] using hT) hv
                rcases ns_at hr g1 with ⟨hq, q1, rfl, rfl, aa, g3⟩ | ⟨q, A0, Lr, hq, q1, q2, q3, q4, q5, q6, q7⟩
                · -- nothing was there
                  have hd0 : row.2.drop 0 = [] := by rw [q1]; rfl
                  by_cases hx0 : xs.length = 0
                  · have hxs : xs = [] := List.length_eq_zero_iff.1 hx0
                    subst hxs
                    simp only [FlatV] at s3
                    obtain ⟨rfl, _⟩ := s3
                    have hrun := run_append_zero (aa := aa) (ty := o.type) (w := e.w) hut huu hi s2 (by have := s4 e.w (Same.refl _ _); rw [← his] at this; simpa using this)
                    refine wp_value (hexec a e.w _ _ (by rw [g3, happ, hrun])) ?_
                    obtain ⟨e', Lf', hw', hφ', hA', hT⟩ := Turns.move (dl := [(nm, some row, none)]) (row' := (sz, row.2.drop 0 ++ [])) (s' := .nilp) (L' := []) (w' := e.w) hk hbh s1 hpre' (by simp) hapart hnone hnA ⟨hn1, hn2⟩ (Nat.le_refl _) (SameIo.refl _) (fun _ _ _ => rfl)
                      (fun e' _ _ _ => ⟨by simp [q1], rfl⟩) (by simp) (by simp)
                    have := kk e' Lf' (.slice aa 0 0) hT (by simp [RV, hφ'])
                    rw [hw'] at this
                    exact this
                  · refine newrow e L0 H Lf A a K Q [(nm, some row, none)] (row.2.drop 0) [] [] aa 0 0 hn hk hpre' hnone hnA (by simp) hapart hn1 hn2 hbt hbh ht p1 p2 (by rw [hlen]; exact p6) (by rw [hlen]; exact p7) g3 hlen.symm (by omega) hbo (by rw [hd0]; exact ⟨rfl, rfl⟩) (by simp) (by simp) (by simp) (fun w' _ => by cases aa <;> simp [Builtin.firstCells, loadCells, loadCellsFrom]) ?_
                    intro e' Lf' v' hT hv
                    exact kk e' Lf' v' hT (by rw [hlen] at hv; exact hv)
                · have hoff : off ≤ row.2.length := by omega
                  have h0 : row.2 = row.2.take off ++ row.2.drop off := by simp
                  have q3' := q3
                  rw [h0] at q3'
                  obtain ⟨M1, M2, m1, m2, m3⟩ := (RRows_append _ _).1 q3'
                  rw [List.length_take, Nat.min_eq_left hoff] at m2
                  obtain ⟨olds, o1, o2, o3⟩ := free_rows m2
                  rw [hlen] at o2
                  have hnd := hk.rh.nodup nm (by simp [hrow])
                  rw [q4, m3] at hnd
                  have hblkL := hk.rh.blk nm (by simp [hrow])
                  have hqsz : q.sz = sz := q1.trans p3
                  rw [hqsz] at o1 o2
                  obtain ⟨sz0, q8, arr, ety, q9, q10⟩ := q2
                  by_cases hroom : len + xs.length ≤ q.cap - off
                  · -- in place
                    have hln := FlatV_length s3
                    have hm : (off + (len + xs.length)) * q.sz ≤ q.cap * q.sz ∨ q.cap - off = 0 ∧ len + xs.length = 0 := by
                      by_cases h : off ≤ q.cap
                      · exact .inl (Nat.mul_le_mul_right _ (by omega))
                      · exact .inr ⟨by omega, by omega⟩
                    have hcapoff : off ≤ q.cap := by omega
                    have hm' : (off + (len + xs.length)) * q.sz ≤ q.cap * q.sz := Nat.mul_le_mul_right _ (by omega)
                    have hm2 : (off + (len + xs.length)) * q.sz = off * q.sz + len * q.sz + xs.length * q.sz := by rw [Nat.add_mul, Nat.add_mul]; omega
                    have hm3 : q.off + off * q.sz + len * q.sz + vals.length ≤ arr.size := by rw [hln, ← hqsz]; omega
                    have hrun := run_append_room' (ty := o.type) (w := e.w) (a := A0) (sLen := len) (sCap := q.cap - off) (b := q.block) (o' := q.off + off * q.sz) hut huu hi s2 (by have := s4 e.w (Same.refl _ _); rw [← his] at this; exact this) hroom (fun h => q7 (by omega))
                      (by rw [hln, his]) (FlatV_ok s3) q9 (by rw [his, ← hqsz]; exact hm3)
                    rw [his, ← hqsz] at hrun
                    refine wp_value (hexec a e.w _ _ (by rw [q6, happ, hrun])) ?_
                    have hbl : q.block < e.w.heap.size := (Array.getElem?_eq_some_iff.1 q9).1
                    have hblk := setBlk_at e.w q.block (.cells (arrSet arr (q.off + off * q.sz + len * q.sz) vals) ety (0, 0)) hbl
                    have hnb : ∀ b ∈ M2, b ≠ q.block := fun b hb he => (List.nodup_cons.1 hnd).1 (by rw [← he]; simp [hb])
                    obtain ⟨e', Lf', hw', hφ', hA', hT⟩ := Turns.move (dl := [(nm, some row, none)]) (row' := (sz, row.2.drop off ++ xs)) (s' := .at ⟨q.block, q.off + off * q.sz, q.cap - off, q.sz⟩) (L' := q.block :: M2)
                      (w' := World.setBlk e.w q.block (.cells (arrSet arr (q.off + off * q.sz + len * q.sz) vals) ety (0, 0))) hk hbh s1 hpre' (by simp) hapart hnone hnA ⟨hn1, hn2⟩ (by rw [setBlk_size]; exact Nat.le_refl _) ⟨rfl, rfl, rfl⟩
                      (fun c _ hcn => setBlk_other _ _ _ _ (fun he => hcn nm (by simp) (by simp [hrow]) (by rw [q4, ← he]; simp))) (by
                        intro e' hw' hφ' hkp
                        have hkeep : Keeps e e' A M2 := { hkp with own := fun b hb => by rw [hw']; exact setBlk_other _ _ _ _ (fun he => hnb b hb he.symm) }
                        refine ⟨hqsz, ⟨sz0, by simp; omega, _, ety, by rw [hw']; exact hblk, ?_⟩, M2, ?_, rfl⟩
                        · rw [arrSet_size]
                          have : off * q.sz + (q.cap - off) * q.sz = q.cap * q.sz := by rw [← Nat.add_mul]; congr 1; omega
                          simp only
                          omega
                        · have hfl : FlatV e' sz (row.2.drop off ++ xs) (olds ++ vals) (M2 ++ []) := FlatV_append (FlatV_keep hkeep hbo o1) (FlatV_keep (hkeep.sub (by simp)) (mem_free hsrc (arg_bnd hbt c2) hbh (fun x hx => hpre' x (by simp [hx]))) s3)
                          rw [List.append_nil] at hfl
                          simp only [hqsz]
                          refine FlatV_rows hfl (fun j hj => ?_)
                          rw [hw', cell_blk hblk]
                          have hos : olds.length = len * q.sz := by rw [o2, hqsz]
                          by_cases hjo : j < olds.length
                          · rw [arrSet_other _ _ _ _ (.inl (by rw [← hqsz]; omega)), List.getElem?_append_left hjo]
                            have := o3 j hjo
                            rw [cell_blk q9] at this
                            rw [← this, hqsz]
                          · rw [List.getElem?_append_right (by omega), hos]
                            simp only [List.length_append] at hj
                            have := arrSet_at arr (q.off + off * q.sz + len * q.sz) vals (j - len * q.sz) (by omega) hm3
                            rw [← this, ← hqsz]
                            congr 1
                            omega)
                      (List.nodup_cons.2 ⟨fun hm => hnb _ hm rfl, (hnd.sublist ((List.sublist_append_right M1 M2).trans (List.sublist_cons_self _ _)))⟩) (by
                        intro b hb
                        have hb' : b ∈ Lf nm := by
                          rw [q4, m3]
                          rcases List.mem_cons.1 hb with rfl | hb
                          · simp
                          · simp [hb]
                        refine ⟨by rw [setBlk_size]; exact (hblkL b hb').1, .inr ⟨nm, by simp, by simp [hrow], hb'⟩⟩)
                    have := kk e' Lf' (.slice (some A0) (len + xs.length) (q.cap - off)) hT (RV_ns_at hφ' rfl (by simpa using hroom) (fun h => q7 (by simp at h; omega)))
                    rw [hw'] at this
                    exact this
                  · -- a new block
                    have hrf : ∀ w' : World, w'.heap = e.w.heap → (Builtin.firstCells i.size len (.slice (some A0) len (q.cap - off))).run P w' = .ok olds.toArray w' := by
                      intro w' hw
                      simp only [Builtin.firstCells]
                      by_cases hz0 : len = 0
                      · subst hz0
                        have : olds = [] := List.length_eq_zero_iff.1 (by omega)
                        subst this
                        simp [loadCells, loadCellsFrom]
                      · rw [q7 (by omega)]
                        refine run_loadCells (by rw [his]; exact o2) (fun j hj => ?_)
                        rw [cell_of_heap (w := e.w) (by rw [hw])]
                        exact o3 j (by rw [his] at hj; omega)
                    refine newrow e L0 H Lf A a K Q [(nm, some row, none)] (row.2.drop off) olds M2 (some A0) len (q.cap - off) hn hk hpre' hnone hnA (by simp) hapart hn1 hn2 hbt hbh ht p1 p2 (by rw [hlen]; exact p6) (by rw [hlen]; exact p7) q6 hlen.symm (by omega) hbo o1
                      (hnd.sublist ((List.sublist_append_right M1 M2).trans (List.sublist_cons_self _ _))) ?_ (by simp) hrf ?_
                    · intro b hb
                      have hb' : b ∈ Lf nm := by rw [q4, m3]; simp [hb]
                      exact ⟨(hblkL b hb').1, nm, by simp, by simp [hrow], hb'⟩
                    · intro e' Lf' v' hT hv
                      exact kk e' Lf' v' hT (by rw [hlen] at hv; exact hv)
            · simp at hp
    · simp at hc
  · simp at hc

end
end Go.Sep

/- The tail of an own row, cleared. -/
namespace Go.Sep
set_option linter.unusedVariables false
set_option linter.unusedSimpArgs false

section
variable {P : Program} {num : Nat → Nat} {o : Oper} {ρ : Nat → AV} {h : Heap} {nx nx' : Nat} {p : Prop} {v : AV} {fp : FP}

theorem run_clear_zero {w : World} {t el ty : TypeId} {a : Option Addr} {c : Nat} (ht : P.underlying t = some (.slice el)) : (Builtin.clear_ #[t] ty #[.slice a 0 c]).run P w = .ok (.tuple #[]) w := by
  unfold Builtin.clear_
  simp only [List.getElem?_toArray, List.getElem?_cons_zero, Sem.run_bind, run_underlying' ht, Result.andThen_ok]
  cases a <;> simp

theorem run_clear {w : World} {t el ty : TypeId} {i : TypeInfo} {z : Value} {b o' n c : Nat} {arr : Array Value} {ety : TypeId} (ht : P.underlying t = some (.slice el)) (hi : P.info? el = some i) (hz : i.zero = some z) (hn : n ≠ 0)
    (hb : w.heap[b]? = some (.cells arr ety (0, 0))) (h1 : ∀ v ∈ (Builtin.zeroCells z.cells n).toList, v.oneCell' = true) (hs : o' + (Builtin.zeroCells z.cells n).toList.length ≤ arr.size) :
    (Builtin.clear_ #[t] ty #[.slice (some ⟨b, o', none⟩) n c]).run P w = .ok (.tuple #[]) (World.setBlk w b (.cells (arrSet arr o' (Builtin.zeroCells z.cells n).toList) ety (0, 0))) := by
  obtain ⟨m, rfl⟩ := Nat.exists_eq_succ_of_ne_zero hn
  unfold Builtin.clear_
  simp only [List.getElem?_toArray, List.getElem?_cons_zero, Sem.run_bind, run_underlying' ht, Result.andThen_ok, run_zeroValue' hi hz]
  rw [run_storeCells _ w o' 0 arr hb h1 (by simpa using hs)]
  simp

theorem tri_clr {zero : List AV} {x : Arg} (hc : chkOp P num (.clr zero x) o.op = true) (hp : plan ρ h nx (.clr zero x) = some (p, v, fp, nx')) (hpp : p) : Tri P num o ρ v fp := by
  simp only [chkOp] at hc
  split at hc
  · rename_i args tys hop
    split at hc
    · rename_i y t ha ht1
      simp only [Bool.and_eq_true] at hc
      obtain ⟨c1, c2⟩ := hc
      cases hel : elemOf? P t with
      | none => simp [hel] at c2
      | some el =>
        simp only [hel] at c2
        obtain ⟨i, z, hi, his, hz, hzv, hzo⟩ := chkZero_some c2
        have hut := elemOf_some hel
        have hargs : args = #[y] := Array.toList_inj.1 ha
        subst hargs
        have hexec : ∀ (a : Act) (w w' : World) (v : Value), (Builtin.clear_ tys o.type #[a.eval y]).run P w = .ok v w' → (execOp a.eval o).run P w = .ok (.value v) w' := by
          intro a w w' v hr
          simp [execOp, hop, resolve, invoke, builtin, hr]
        have hclr : ∀ (ty : TypeId) (s : Value) (w : World), (Builtin.clear_ tys ty #[s]).run P w = (Builtin.clear_ #[t] ty #[s]).run P w := by
          intro ty s w
          unfold Builtin.clear_
          simp only [ht1, List.getElem?_toArray, List.getElem?_cons_zero]
        simp only [plan] at hp
        split at hp
        · rename_i nm off len hx
          cases hl : look h nm with
          | none => simp [hl] at hp
          | some row =>
            simp only [hl, Option.map_some, Option.some.injEq, Prod.mk.injEq] at hp
            obtain ⟨rfl, rfl, rfl, _⟩ := hp
            obtain ⟨p1, p2⟩ := hpp
            intro e L0 H Lf A a K Q hn hk hpre hbt hbh hfr ht k
            subst hn
            have hrow : H nm = some row := hpre _ List.mem_cons_self
            have hr := hk.rh.row nm row hrow
            have hrb := hbh nm row hrow
            have g := RV_arg (ρ := ρ) ht c1
            rw [hx] at g
            have same : ∀ w' : Value, (row.1, row.2.take off ++ List.replicate len zero) = row → K (a.put o.dst w') e.w := by
              intro w' hsame
              rw [hsame] at k
              have hH : upH H [(nm, some row, some row)] = H := by
                funext n
                show (if n = nm then some row else H n) = H n
                split
                · rename_i he
                  rw [he, hrow]
                · rfl
              have := k e Lf w' (by rw [hH]; exact Turns.refl _ hk) (by simp [RV])
              exact this
            rcases ns_at hr g with ⟨hq, q1, rfl, rfl, aa, g3⟩ | ⟨q, A0, Lr, hq, q1, q2, q3, q4, q5, q6, q7⟩
            · refine wp_value (hexec a e.w _ _ (by rw [g3, hclr, run_clear_zero hut])) (same _ ?_)
              obtain ⟨r1, r2⟩ := row
              simp only at q1
              subst q1
              rfl
            · by_cases h0 : len = 0
              · subst h0
                refine wp_value (hexec a e.w _ _ (by rw [q6, hclr, run_clear_zero hut])) (same _ ?_)
                simp only [List.replicate_zero, List.append_nil]
                rw [List.take_of_length_le (by omega)]
              · have hoff : off ≤ row.2.length := by omega
                have hs0 : row.2 = row.2.take off ++ row.2.drop off := by simp
                have q3' := q3
                rw [hs0] at q3'
                obtain ⟨M1, M2, m1, m2, m3⟩ := (RRows_append _ _).1 q3'
                obtain ⟨sz0, q8, arr, ety, q9, q10⟩ := q2
                have hqz : q.sz = zero.length := q1.trans p1
                have hzl := RVs_length (RVs_const (e := e) hzv)
                have hzs : z.cells.size = q.sz := by simp at hzl; omega
                have hlen : (Builtin.zeroCells z.cells len).toList.length = len * q.sz := by simp [Builtin.zeroCells, hzs]
                have hget : ∀ j, j < len * q.sz → (Builtin.zeroCells z.cells len).toList[j]? = (List.replicate len z.cells.toList).flatten[j]? := by
                  intro j hj
                  rw [Array.getElem?_toList]
                  unfold Builtin.zeroCells
                  exact zeros_get rfl j (by rw [hzs]; exact hj)
                have hfl : ∀ e' : Env, FlatV e' q.sz (List.replicate len zero) (List.replicate len z.cells.toList).flatten [] := fun e' => FlatV_replicate (RVs_const hzv) ⟨hqz.symm, hzo⟩ len
                have hfll := FlatV_length (hfl e)
                rw [List.length_replicate] at hfll
                have hzeq : (Builtin.zeroCells z.cells len).toList = (List.replicate len z.cells.toList).flatten := by
                  apply List.ext_getElem?
                  intro j
                  by_cases hj : j < len * q.sz
                  · exact hget j hj
                  · rw [List.getElem?_eq_none (by omega), List.getElem?_eq_none (by omega)]
                have hm : (off + len) * q.sz ≤ q.cap * q.sz := Nat.mul_le_mul_right _ (by omega)
                rw [Nat.add_mul] at hm
                have hrun := run_clear (ty := o.type) (w := e.w) (c := q.cap - off) (o' := q.off + off * q.sz) hut hi hz h0 q9 (by rw [hzeq]; exact FlatV_ok (hfl e)) (by rw [hlen]; omega)
                refine wp_value (hexec a e.w _ _ (by rw [q6, q7 (by omega), hclr, hrun])) ?_
                have hbl : q.block < e.w.heap.size := (Array.getElem?_eq_some_iff.1 q9).1
                have hblk := setBlk_at e.w q.block (.cells (arrSet arr (q.off + off * q.sz) (Builtin.zeroCells z.cells len).toList) ety (0, 0)) hbl
                have hnd := hk.rh.nodup nm (by simp [hrow])
                rw [q4, m3] at hnd
                have hnb : ∀ b ∈ M1, b ≠ q.block := fun b hb he => (List.nodup_cons.1 hnd).1 (by rw [← he]; simp [hb])
                have kp : Keeps e { e with w := World.setBlk e.w q.block (.cells (arrSet arr (q.off + off * q.sz) (Builtin.zeroCells z.cells len).toList) ety (0, 0)) } A M1 := {
                  num := rfl
                  fr := fun m b h => by cases m <;> exact h
                  cells := fun b _ o => rfl
                  φ := fun nm hA => .inl rfl
                  own := fun b hb => setBlk_other _ _ _ _ (fun he => hnb b hb he.symm) }
                refine k _ _ _ (Turns.one (b := q.block) (L' := q.block :: M1) hk hrow (by rw [q4]; simp) (setBlk_io _ _ _) (setBlk_size _ _ _) (fun c hc => setBlk_other _ _ _ _ (fun he => hc he.symm)) ?_ ?_ ?_) (by simp [RV])
                · unfold RowAt RowSp
                  simp only [hq]
                  refine ⟨q1, ⟨sz0, by simp; omega, _, ety, hblk, by rw [arrSet_size]; exact q10⟩, M1, ?_, rfl⟩
                  have hb1 : bndr A (row.2.take off) := bndr_iff.2 fun r hr => bndr_iff.1 hrb r (List.mem_of_mem_take hr)
                  have htl : (row.2.take off).length = off := by simp; omega
                  refine (RRows_append _ _).2 ⟨M1, [], RRows_cells _ (fun j h1 h2 => ?_) (RRows_keep _ kp hb1 (fun _ _ => rfl) m1), ?_, by simp⟩
                  · rw [cell_blk hblk, cell_blk q9, arrSet_other _ _ _ _ (.inl (by rw [htl] at h2; omega))]
                  · rw [htl]
                    refine FlatV_rows (hfl _) (fun j hj => ?_)
                    rw [cell_blk hblk, ← hzeq, arrSet_at _ _ _ _ (by omega) (by omega)]
                · exact hnd.sublist (List.Sublist.cons_cons _ (List.sublist_append_left _ _))
                · intro b hb
                  rw [q4, m3]
                  simp only [List.mem_cons, List.mem_append] at hb ⊢
                  rcases hb with h | h
                  · exact .inl h
                  · exact .inr (.inl h)
        · simp at hp
    · simp at hc
  · simp at hc

end
end Go.Sep

/- Bytes turned into a string; then all operations together: what the executor tells of an operation is so. -/
namespace Go.Sep
set_option linter.unusedVariables false
set_option linter.unusedSimpArgs false

section
variable {P : Program} {num : Nat → Nat} {o : Oper} {ρ : Nat → AV} {h : Heap} {nx nx' : Nat} {p : Prop} {v : AV} {fp : FP}

theorem src_same {sz : Nat} {d : AV} {cond : Prop} {xs : List (List AV)} {rd : FP} {r : Nat × Option Row × Option Row} (hs : srcA h sz d = some (cond, xs, rd)) (hr : r ∈ rd) : r.2.2 = r.2.1 := by
  unfold srcA at hs
  split at hs
  · simp only [Option.some.injEq, Prod.mk.injEq] at hs
    obtain ⟨_, _, rfl⟩ := hs
    simp at hr
  · rename_i nm off len
    cases hl : look h nm with
    | none => simp [hl] at hs
    | some row =>
      simp only [hl, Option.map_some, Option.some.injEq, Prod.mk.injEq] at hs
      obtain ⟨_, _, rfl⟩ := hs
      simp only [List.mem_singleton] at hr
      subst hr
      rfl
  · simp only [Option.some.injEq, Prod.mk.injEq] at hs
    obtain ⟨_, _, rfl⟩ := hs
    simp at hr
  · simp only [Option.some.injEq, Prod.mk.injEq] at hs
    obtain ⟨_, _, rfl⟩ := hs
    simp at hr
  · simp at hs

theorem src_slice {e : Env} {sz : Nat} {d : AV} {c : Value} {cond : Prop} {xs : List (List AV)} {rd : FP} (hs : srcA h sz d = some (cond, xs, rd)) (hv : RV e d c []) : ∃ a l k, c = .slice a l k := by
  unfold srcA at hs
  split at hs
  · simp only [RV] at hv
    exact ⟨_, _, _, hv.1⟩
  · simp only [RV] at hv
    obtain ⟨_, hv⟩ := hv
    split at hv
    · exact hv
    · obtain ⟨_, _, a, hv⟩ := hv
      exact ⟨_, _, _, hv⟩
    · obtain ⟨_, a, hv, _⟩ := hv
      exact ⟨_, _, _, hv⟩
  · simp only [RV] at hv
    rcases hv.2 with ⟨_, a, c', hv, _⟩ | ⟨b, o', c', hv, _⟩ <;> exact ⟨_, _, _, hv⟩
  · simp only [RV] at hv
    rcases hv.2 with ⟨_, a, c', hv, _⟩ | ⟨b, o', c', hv, _⟩ <;> exact ⟨_, _, _, hv⟩
  · simp at hs

def byteInts : List (List AV) → List Int
  | [.int _ n] :: l => n :: byteInts l
  | _ => []

theorem bytes_flat {e : Env} : ∀ {xs : List (List AV)} {vals : List Value} {L : List Nat} {l : List UInt8}, bytesOf xs = some l → FlatV e 1 xs vals L → vals = (byteInts xs).map (Value.int .u8) ∧ l = (byteInts xs).map (fun n => UInt8.ofNat n.toNat) ∧ (byteInts xs).length = xs.length
  | [], _, _, _, hb, h => by
    simp only [bytesOf, Option.some.injEq] at hb
    subst hb
    simp only [FlatV] at h
    simp [h.1, byteInts]
  | r :: rs, vals, L, l, hb, h => by
    unfold bytesOf at hb
    split at hb
    · rename_i hx; simp at hx
    · rename_i n l' hx
      simp only [List.cons.injEq] at hx
      obtain ⟨rfl, rfl⟩ := hx
      cases hl : bytesOf rs with
      | none => simp [hl] at hb
      | some l1 =>
        simp only [hl, Option.map_some, Option.some.injEq] at hb
        subst hb
        simp only [FlatV] at h
        obtain ⟨v1, v2, L1, L2, rfl, h1, h2, h3, rfl⟩ := h
        simp only [RVs, RV] at h2
        obtain ⟨v, vs', M1, M2, rfl, ⟨rfl, _⟩, ⟨rfl, _⟩, _⟩ := h2
        obtain ⟨g1, g2, g3⟩ := bytes_flat hl h3
        simp [byteInts, g1, g2, g3]
    · simp at hb

theorem push_bytes : ∀ (ns : List Int) (s : ByteArray), ns.foldl (fun r n => r.push (UInt8.ofNat n.toNat)) s = ⟨s.data ++ (ns.map (fun n => UInt8.ofNat n.toNat)).toArray⟩
  | [], s => by simp
  | n :: ns, s => by
    simp only [List.foldl_cons, push_bytes ns]
    simp [ByteArray.push]

theorem tri_cvs {x : Arg} (hc : chkOp P num (.cvs x) o.op = true) (hp : plan ρ h nx (.cvs x) = some (p, v, fp, nx')) (hpp : p) : TriR P num o ρ v fp := by
  simp only [chkOp] at hc
  split at hc
  · rename_i s d y hop
    simp only [Bool.and_eq_true] at hc
    obtain ⟨⟨hc, hd⟩, h5⟩ := hc
    cases hel : elemOf? P s with
    | none => simp [hel] at h5
    | some el =>
      simp only [hel] at h5
      have hu := elemOf_some hel
      have hu8 : P.underlying el = some (.int .u8) := by
        split at h5
        · assumption
        · simp at h5
      have hds : P.underlying d = some .string := by
        unfold isStr at hd
        split at hd
        · assumption
        · simp at hd
      simp only [plan] at hp
      cases hsrc : srcA h 1 (x.ev ρ) with
      | none => simp [hsrc] at hp
      | some r =>
        obtain ⟨cond, xs, rd⟩ := r
        simp only [hsrc, Option.bind_some] at hp
        cases hb : bytesOf xs with
        | none => simp [hb] at hp
        | some l =>
          simp only [hb, Option.map_some, Option.some.injEq, Prod.mk.injEq] at hp
          obtain ⟨rfl, rfl, rfl, _⟩ := hp
          refine Tri.of_read ?_ ?_
          · exact fun r hr => src_same hsrc hr
          · intro e L0 H Lf a hn hk hpre ht
            subst hn
            have h1 := RV_arg (ρ := ρ) ht hc
            obtain ⟨ad, ln, cp, hv⟩ := src_slice hsrc h1
            obtain ⟨s1, s2, vals, s3, s4⟩ := src_run hk hsrc hpp hpre h1
            obtain ⟨g1, g2, g3⟩ := bytes_flat hb s3
            refine ⟨.string ⟨l.toArray⟩, ?_, by simp [RV]⟩
            have hln : ln = xs.length := by
              rw [hv] at s2
              simp only [Builtin.lenOf] at s2
              have := congrArg (fun m => Sem.run P m e.w) s2
              simpa [Sem.run_pure] using this
            intro w' hw'
            have h4 := s4 w' hw'
            rw [hv] at h4
            simp only [execOp, hop, Sem.run_bind, hv]
            rw [run_convert_bytes_string w' s d el ad ln cp hu hu8 hds]
            cases ad with
            | none =>
              simp only [Builtin.firstCells, Sem.run_pure] at h4
              have hvals : vals = [] := by simpa using (Result.ok.inj h4).1.symm
              rw [hvals] at g1
              have : byteInts xs = [] := by simpa using g1.symm
              rw [this] at g2
              subst g2
              simp [Conv.bytesToString, Sem.run_pure]
              rfl
            | some ad =>
              simp only [Builtin.firstCells, Nat.mul_one] at h4
              rw [← hln, g1] at h4
              rw [run_bytesToString w' ad ln cp (byteInts xs) h4, push_bytes, g2]
              simp [Sem.run_pure]
  · simp at hc

end
end Go.Sep

/- All operations together: what the executor tells of an operation is so; names stay below the next name. -/
namespace Go.Sep
set_option linter.unusedVariables false
set_option linter.unusedSimpArgs false

section
variable {P : Program} {num : Nat → Nat} {o : Oper} {ρ : Nat → AV} {h : Heap} {nx nx' : Nat} {p : Prop} {v : AV} {fp : FP}

theorem plan_triR {m : MOp} (hr : isRead m = true) (hc : chkOp P num m o.op = true) (hp : plan ρ h nx m = some (p, v, fp, nx')) (hpp : p) : TriR P num o ρ v fp := by
  cases m with
  | mv x => exact (tri_mv hc hp)
  | pick c a b => exact (tri_pick hc hp)
  | alloc z => simp [isRead] at hr
  | box x => simp [isRead] at hr
  | build z ps => exact (tri_build hc hp hpp)
  | mkSl z l ps => simp [isRead] at hr
  | load n ag a =>
    simp only [plan] at hp
    split at hp
    · rename_i nm i f hx
      cases hl : look h nm with
      | none => simp [hl] at hp
      | some row =>
        simp only [hl, Option.map_some, Option.some.injEq, Prod.mk.injEq] at hp
        obtain ⟨rfl, rfl, rfl, rfl⟩ := hp
        exact (tri_load_p hc hx hpp.1 hpp.2)
    · rename_i m cells f hx
      simp only [Option.some.injEq, Prod.mk.injEq] at hp
      obtain ⟨rfl, rfl, rfl, rfl⟩ := hp
      exact (tri_load_f hc hx hpp)
    · simp at hp
  | store n a z => simp [isRead] at hr
  | nilck x => exact (tri_nilck hc hp)
  | bin b x y => exact (tri_bin hc hp hpp)
  | eqS ng ks x y => exact (tri_eqS hc hp)
  | eqB ng x y => exact (tri_eqB hc hp)
  | neNil x => exact (tri_neNil hc hp)
  | un u x => exact (tri_un hc hp)
  | cvi k x => exact (tri_cvi hc hp)
  | cvs x => exact (tri_cvs hc hp hpp)
  | mkS z b l c => simp [isRead] at hr
  | cut s x l h => exact (tri_cut hc hp hpp)
  | cutS x l h => exact (tri_cutS hc hp hpp)
  | fad f x => exact (tri_fad hc hp)
  | fld f n ag x => exact (tri_fld hc hp hpp)
  | iad s x i => exact (tri_iad hc hp hpp)
  | idx x i => exact (tri_idx hc hp hpp)
  | ext x i => exact (tri_ext hc hp hpp)
  | len x => exact (tri_len hc hp)
  | lenS x => exact (tri_lenS hc hp)
  | mx x y => exact (tri_mx hc hp)
  | app s b x y => simp [isRead] at hr
  | clr z x => simp [isRead] at hr
  | call f ps xs => simp [isRead] at hr
  | calv f xs => simp [isRead] at hr

theorem plan_tri {m : MOp} (hc : chkOp P num m o.op = true) (hp : plan ρ h nx m = some (p, v, fp, nx')) (hpp : p) (hnx : ∀ nm row, look h nm = some row → nm ≠ nx) : Tri P num o ρ v fp := by
  cases m with
  | mv x => exact (tri_mv hc hp).tri
  | pick c a b => exact (tri_pick hc hp).tri
  | alloc z => exact tri_alloc hc hp hpp
  | box x => exact tri_box hc hp hpp
  | build z ps => exact (tri_build hc hp hpp).tri
  | mkSl z l ps => exact tri_mkSl hc hp hpp
  | load n ag a =>
    simp only [plan] at hp
    split at hp
    · rename_i nm i f hx
      cases hl : look h nm with
      | none => simp [hl] at hp
      | some row =>
        simp only [hl, Option.map_some, Option.some.injEq, Prod.mk.injEq] at hp
        obtain ⟨rfl, rfl, rfl, rfl⟩ := hp
        exact (tri_load_p hc hx hpp.1 hpp.2).tri
    · rename_i m cells f hx
      simp only [Option.some.injEq, Prod.mk.injEq] at hp
      obtain ⟨rfl, rfl, rfl, rfl⟩ := hp
      exact (tri_load_f hc hx hpp).tri
    · simp at hp
  | store n a z =>
    simp only [plan] at hp
    split at hp
    · rename_i nm i f hx
      cases hl : look h nm with
      | none => simp [hl] at hp
      | some row =>
        simp only [hl, Option.map_some, Option.some.injEq, Prod.mk.injEq] at hp
        obtain ⟨rfl, rfl, rfl, rfl⟩ := hp
        exact tri_store hc hx hpp.2.2.1 hpp.2.2.2 hpp.1 hpp.2.1
    · simp at hp
  | nilck x => exact (tri_nilck hc hp).tri
  | bin b x y => exact (tri_bin hc hp hpp).tri
  | eqS ng ks x y => exact (tri_eqS hc hp).tri
  | eqB ng x y => exact (tri_eqB hc hp).tri
  | neNil x => exact (tri_neNil hc hp).tri
  | un u x => exact (tri_un hc hp).tri
  | cvi k x => exact (tri_cvi hc hp).tri
  | cvs x => exact (tri_cvs hc hp hpp).tri
  | mkS z b l c => exact tri_mkS hc hp hpp
  | cut s x l h => exact (tri_cut hc hp hpp).tri
  | cutS x l h => exact (tri_cutS hc hp hpp).tri
  | fad f x => exact (tri_fad hc hp).tri
  | fld f n ag x => exact (tri_fld hc hp hpp).tri
  | iad s x i => exact (tri_iad hc hp hpp).tri
  | idx x i => exact (tri_idx hc hp hpp).tri
  | ext x i => exact (tri_ext hc hp hpp).tri
  | len x => exact (tri_len hc hp).tri
  | lenS x => exact (tri_lenS hc hp).tri
  | mx x y => exact (tri_mx hc hp).tri
  | app s b x y => exact tri_app hc hp hpp hnx
  | clr z x => exact tri_clr hc hp hpp
  | call f ps xs => simp [plan] at hp
  | calv f xs => simp [plan] at hp

/-- What a step leaves is below the next name. -/
structure PB (h : Heap) (nx : Nat) (v : AV) (fp : FP) (nx' : Nat) : Prop where
  le : nx ≤ nx'
  v : bnd (· < nx') v
  pre : ∀ x ∈ fp, look h x.1 = x.2.1
  new : ∀ x ∈ fp, x.2.1 = none → nx ≤ x.1
  lt : ∀ x ∈ fp, x.1 < nx'
  row : ∀ x ∈ fp, ∀ row, x.2.2 = some row → bndr (· < nx') row.2

/-- Names are below the next name. -/
def HB (h : Heap) (nx : Nat) : Prop := ∀ nm row, look h nm = some row → nm < nx ∧ bndr (· < nx) row.2

theorem HB.new {h : Heap} {nx n : Nat} (hb : HB h nx) (hn : nx ≤ n) : look h n = none := by
  cases hl : look h n with
  | none => rfl
  | some row => have := (hb n row hl).1; omega

theorem bnds_take {A : Nat → Prop} {l : List AV} (h : bnds A l) (n : Nat) : bnds A (l.take n) := bnds_iff.2 fun x hx => bnds_iff.1 h x (List.mem_of_mem_take hx)
theorem bnds_drop {A : Nat → Prop} {l : List AV} (h : bnds A l) (n : Nat) : bnds A (l.drop n) := bnds_iff.2 fun x hx => bnds_iff.1 h x (List.mem_of_mem_drop hx)
theorem bndr_take {A : Nat → Prop} {l : List (List AV)} (h : bndr A l) (n : Nat) : bndr A (l.take n) := bndr_iff.2 fun x hx => bndr_iff.1 h x (List.mem_of_mem_take hx)
theorem bndr_drop {A : Nat → Prop} {l : List (List AV)} (h : bndr A l) (n : Nat) : bndr A (l.drop n) := bndr_iff.2 fun x hx => bndr_iff.1 h x (List.mem_of_mem_drop hx)
theorem bnds_app {A : Nat → Prop} {l m : List AV} (h : bnds A l) (h' : bnds A m) : bnds A (l ++ m) := bnds_iff.2 fun x hx => by
  rcases List.mem_append.1 hx with hx | hx
  · exact bnds_iff.1 h x hx
  · exact bnds_iff.1 h' x hx
theorem bndr_app {A : Nat → Prop} {l m : List (List AV)} (h : bndr A l) (h' : bndr A m) : bndr A (l ++ m) := bndr_iff.2 fun x hx => by
  rcases List.mem_append.1 hx with hx | hx
  · exact bndr_iff.1 h x hx
  · exact bndr_iff.1 h' x hx
theorem bnds_getD {A : Nat → Prop} {l : List AV} (h : bnds A l) (n : Nat) : bnd A (l.getD n .any) := by
  rw [List.getD_eq_getElem?_getD]
  cases hg : l[n]? with
  | none => trivial
  | some x => exact bnds_iff.1 h x (List.mem_of_getElem? hg)
theorem bndr_getD {A : Nat → Prop} {l : List (List AV)} (h : bndr A l) (n : Nat) : bnds A (l.getD n []) := by
  rw [List.getD_eq_getElem?_getD]
  cases hg : l[n]? with
  | none => trivial
  | some x => exact bndr_iff.1 h x (List.mem_of_getElem? hg)
theorem bndr_set {A : Nat → Prop} {l : List (List AV)} (h : bndr A l) (n : Nat) {r : List AV} (hr : bnds A r) : bndr A (l.set n r) := bndr_iff.2 fun x hx => by
  rcases List.mem_or_eq_of_mem_set hx with hx | rfl
  · exact bndr_iff.1 h x hx
  · exact hr
theorem bnds_splice {A : Nat → Prop} {l cs : List AV} (h : bnds A l) (h' : bnds A cs) (f : Nat) : bnds A (splice l f cs) := bnds_app (bnds_app (bnds_take h f) h') (bnds_drop h _)

theorem fillA_bnd {A : Nat → Prop} {P : Program} {fs : Array Field} (ht : ∀ t, bnd A (ρ t)) : ∀ (parts : List (Nat × Nat × Arg)) (ps : List (Nat × Operand)) (cs : List AV), chkParts P num fs ps parts = true → bnds A cs → bnds A (fillA ρ cs parts)
  | [], _, _, _, hb => hb
  | (off, sz, x) :: l, [], _, hc, _ => by simp [chkParts] at hc
  | (off, sz, x) :: l, (i, y) :: ps, cs, hc, hb => by
    simp only [chkParts, Bool.and_eq_true] at hc
    exact fillA_bnd ht l ps _ hc.2 (bnds_splice hb (cellsOf_bnd (arg_bnd ht hc.1.2)) off)

theorem openL_bnd {A : Nat → Prop} : ∀ (l : List AV) (n : Nat), bnds (· < n) l → bnds (· < (openL n l).2.2) (openL n l).1 ∧ ∀ x ∈ (openL n l).2.1, bndr (· < (openL n l).2.2) x.2.2
  | [], n, _ => by simp [openL, bnds]
  | v :: l, n, hb => by
    by_cases hv : ∃ sz rows, v = .sl .own sz rows
    · obtain ⟨sz, rows, rfl⟩ := hv
      have hle := (openL_le l (n + 1)).1
      have ih := openL_bnd (A := A) l (n + 1) (bnds_mono (by intro k hk; omega) l hb.2)
      simp only [openL, bnds, bnd, List.mem_cons]
      refine ⟨⟨by omega, ih.1⟩, ?_⟩
      rintro x (rfl | hx)
      · exact bndr_mono (by intro k hk; omega) rows hb.1
      · exact ih.2 x hx
    · have ho : openL n (v :: l) = (v :: (openL n l).1, (openL n l).2.1, (openL n l).2.2) := by
        cases v
        case sl m sz rows =>
          cases m
          · exact absurd ⟨_, _, rfl⟩ hv
          all_goals rfl
        all_goals rfl
      rw [ho]
      have ih := openL_bnd (A := A) l n hb.2
      have hle := (openL_le l n).1
      exact ⟨⟨bnd_mono (by intro k hk; simp only at hk ⊢; omega) v hb.1, ih.1⟩, ih.2⟩

theorem src_bnd {A : Nat → Prop} {sz : Nat} {d : AV} {cond : Prop} {xs : List (List AV)} {rd : FP} (hs : srcA h sz d = some (cond, xs, rd)) (hb : bnd A d) (hh : ∀ nm row, look h nm = some row → bndr A row.2) :
    bndr A xs ∧ ∀ x ∈ rd, look h x.1 = x.2.1 ∧ x.2.1 ≠ none ∧ x.2.2 = x.2.1 := by
  unfold srcA at hs
  split at hs
  · simp only [Option.some.injEq, Prod.mk.injEq] at hs
    obtain ⟨_, rfl, rfl⟩ := hs
    exact ⟨trivial, by simp⟩
  · rename_i nm off len
    cases hl : look h nm with
    | none => simp [hl] at hs
    | some row =>
      simp only [hl, Option.map_some, Option.some.injEq, Prod.mk.injEq] at hs
      obtain ⟨_, rfl, rfl⟩ := hs
      exact ⟨bndr_take (bndr_drop (hh nm row hl) off) len, by simp [hl]⟩
  · simp only [Option.some.injEq, Prod.mk.injEq] at hs
    obtain ⟨_, rfl, rfl⟩ := hs
    exact ⟨hb, by simp⟩
  · simp only [Option.some.injEq, Prod.mk.injEq] at hs
    obtain ⟨_, rfl, rfl⟩ := hs
    exact ⟨hb, by simp⟩
  · simp at hs

/-- A step that touches no row. -/
theorem PB.none {v : AV} (hv : bnd (· < nx) v) : PB h nx v [] nx := ⟨Nat.le_refl _, hv, by simp, by simp, by simp, by simp⟩

theorem PB.read {v : AV} (hb : HB h nx) (hv : bnd (· < nx) v) {nm : Nat} {row : Row} (hl : look h nm = some row) : PB h nx v [(nm, some row, some row)] nx :=
  ⟨Nat.le_refl _, hv, by simpa using hl, by simp, by simpa using (hb nm row hl).1, by rintro x hx r hr; simp only [List.mem_singleton] at hx; subst hx; simp only [Option.some.injEq] at hr; subst hr; exact (hb nm row hl).2⟩

theorem PB.fresh {v : AV} (hb : HB h nx) (hv : bnd (· < nx + 1) v) {row : Row} (hr : bndr (· < nx) row.2) : PB h nx v [(nx, Option.none, some row)] (nx + 1) :=
  ⟨by omega, hv, by simpa using hb.new (Nat.le_refl _), by simp, by simp, by rintro x hx r hr'; simp only [List.mem_singleton] at hx; subst hx; simp only [Option.some.injEq] at hr'; subst hr'; exact bndr_mono (by intro k hk; omega) row.2 hr⟩

theorem plan_bnd {m : MOp} {op : Op} (hc : chkOp P num m op = true) (hp : plan ρ h nx m = some (p, v, fp, nx')) (ht : ∀ t, bnd (· < nx) (ρ t)) (hb : HB h nx) : PB h nx v fp nx' := by
  have hbr : ∀ nm row, look h nm = some row → bndr (· < nx) row.2 := fun nm row hl => (hb nm row hl).2
  cases m with
  | mv x =>
    simp only [plan, ok, Option.some.injEq, Prod.mk.injEq] at hp
    obtain ⟨_, rfl, rfl, rfl⟩ := hp
    simp only [chkOp] at hc
    split at hc
    · exact .none (arg_bnd ht hc)
    · exact .none (arg_bnd ht hc)
    · simp at hc
  | pick c a b =>
    simp only [chkOp] at hc
    split at hc
    · simp only [Bool.and_eq_true] at hc
      simp only [plan] at hp
      have ha := arg_bnd ht hc.1.2
      have hb' := arg_bnd ht hc.2
      split at hp
      · split at hp
        · simp only [ok, Option.some.injEq, Prod.mk.injEq] at hp
          obtain ⟨_, rfl, rfl, rfl⟩ := hp
          exact .none trivial
        · simp only [ok, Option.some.injEq, Prod.mk.injEq] at hp
          obtain ⟨_, rfl, rfl, rfl⟩ := hp
          refine .none ?_
          rename_i q _ _ _ _ _
          cases q
          · exact hb'
          · exact ha
      · simp at hp
    · simp at hc
  | alloc z =>
    simp only [plan, Option.some.injEq, Prod.mk.injEq] at hp
    obtain ⟨_, rfl, rfl, rfl⟩ := hp
    simp only [chkOp] at hc
    split at hc
    · obtain ⟨i, z', hi, hs, hz, hzv, hzo⟩ := chkZero_some hc
      exact .fresh hb (by simp [bnd]) ⟨chkVs_bnd hzv, trivial⟩
    · simp at hc
  | box x =>
    simp only [plan, Option.some.injEq, Prod.mk.injEq] at hp
    obtain ⟨_, rfl, rfl, rfl⟩ := hp
    simp only [chkOp] at hc
    split at hc
    · exact .fresh hb (by simp [bnd]) ⟨cellsOf_bnd (arg_bnd ht hc), trivial⟩
    · simp at hc
  | build z ps =>
    simp only [plan, Option.some.injEq, Prod.mk.injEq] at hp
    obtain ⟨_, rfl, rfl, rfl⟩ := hp
    simp only [chkOp] at hc
    split at hc
    · simp only [Bool.and_eq_true] at hc
      obtain ⟨i, z', hi, hs, hz, hzv, hzo⟩ := chkZero_some hc.1
      have h2 := hc.2
      split at h2
      · simp only [Bool.and_eq_true] at h2
        exact .none (fillA_bnd ht _ _ _ h2.2 (chkVs_bnd hzv))
      · simp at h2
    · simp at hc
  | mkSl z l ps =>
    simp only [plan, Option.some.injEq, Prod.mk.injEq] at hp
    obtain ⟨_, rfl, rfl, rfl⟩ := hp
    simp only [chkOp] at hc
    split at hc
    · simp only [Bool.and_eq_true] at hc
      have h2 := hc.2
      split at h2
      · simp only [Bool.and_eq_true] at h2
        obtain ⟨i, z', hi, hs, hz, hzv, hzo⟩ := chkZero_some h2.1.1.1
        exact .fresh hb (by simp [bnd]) (fillR_bnd ht _ _ _ h2.2 (replicate_bnd (chkVs_bnd hzv) _))
      · simp at h2
    · simp at hc
  | load n ag a =>
    simp only [chkOp] at hc
    split at hc
    · simp only [Bool.and_eq_true] at hc
      have ha := arg_bnd ht hc.1.1.1
      simp only [plan] at hp
      split at hp
      · rename_i nm i f hx
        cases hl : look h nm with
        | none => simp [hl] at hp
        | some row =>
          simp only [hl, Option.map_some, Option.some.injEq, Prod.mk.injEq] at hp
          obtain ⟨_, rfl, rfl, rfl⟩ := hp
          have hr := hb nm row hl
          have hc0 : bnds (· < nx) (((row.2.getD i []).drop f).take n) := bnds_take (bnds_drop (bndr_getD hr.2 i) f) n
          obtain ⟨g1, g2⟩ := openL_bnd (A := fun _ => True) _ _ hc0
          obtain ⟨g3, g4⟩ := openL_le (((row.2.getD i []).drop f).take n) nx
          have mono : ∀ k, k < nx → k < (openL nx (((row.2.getD i []).drop f).take n)).2.2 := fun k hk => by omega
          refine ⟨g3, ?_, ?_, ?_, ?_, ?_⟩
          · cases ag
            · exact bnds_getD g1 0
            · exact g1
          · intro x hx
            rcases List.mem_cons.1 hx with rfl | hx
            · exact hl
            · obtain ⟨y, hy, rfl⟩ := List.mem_map.1 hx
              exact hb.new (g4 y hy).1
          · intro x hx hn
            rcases List.mem_cons.1 hx with rfl | hx
            · simp at hn
            · obtain ⟨y, hy, rfl⟩ := List.mem_map.1 hx
              exact (g4 y hy).1
          · intro x hx
            rcases List.mem_cons.1 hx with rfl | hx
            · exact mono _ hr.1
            · obtain ⟨y, hy, rfl⟩ := List.mem_map.1 hx
              exact (g4 y hy).2
          · intro x hx row' hrow'
            rcases List.mem_cons.1 hx with rfl | hx
            · simp only [Option.some.injEq] at hrow'
              subst hrow'
              split
              · exact bndr_mono mono _ hr.2
              · exact bndr_set (bndr_mono mono _ hr.2) i (bnds_splice (bnds_mono mono _ (bndr_getD hr.2 i)) g1 f)
            · obtain ⟨y, hy, rfl⟩ := List.mem_map.1 hx
              simp only [Option.some.injEq] at hrow'
              subst hrow'
              exact g2 y hy
      · rename_i m cells f hx
        simp only [Option.some.injEq, Prod.mk.injEq] at hp
        obtain ⟨_, rfl, rfl, rfl⟩ := hp
        rw [hx] at ha
        have hc0 : bnds (· < nx) ((cells.drop f).take n) := bnds_take (bnds_drop ha f) n
        refine .none ?_
        cases ag
        · exact bnds_getD hc0 0
        · exact hc0
      · simp at hp
    · simp at hc
  | store n a z =>
    simp only [chkOp] at hc
    split at hc
    · simp only [Bool.and_eq_true] at hc
      have ha := arg_bnd ht hc.1.1
      have hz := arg_bnd ht hc.1.2
      simp only [plan] at hp
      split at hp
      · rename_i nm i f hx
        cases hl : look h nm with
        | none => simp [hl] at hp
        | some row =>
          simp only [hl, Option.map_some, Option.some.injEq, Prod.mk.injEq] at hp
          obtain ⟨_, rfl, rfl, rfl⟩ := hp
          have hr := hb nm row hl
          exact ⟨Nat.le_refl _, trivial, by simpa using hl, by simp, by simpa using hr.1, by simpa using bndr_set hr.2 i (bnds_splice (bndr_getD hr.2 i) (cellsOf_bnd hz) f)⟩
      · simp at hp
    · simp at hc
  | nilck x =>
    simp only [chkOp] at hc
    split at hc
    · have ha := arg_bnd ht hc
      simp only [plan] at hp
      split at hp
      · rename_i nm i f hx
        rw [hx] at ha
        cases hl : look h nm with
        | none => simp [hl] at hp
        | some row =>
          simp only [hl, Option.map_some, Option.some.injEq, Prod.mk.injEq] at hp
          obtain ⟨_, rfl, rfl, rfl⟩ := hp
          exact .read hb (by exact ha) hl
      · rename_i hx
        simp only [ok, Option.some.injEq, Prod.mk.injEq] at hp
        obtain ⟨_, rfl, rfl, rfl⟩ := hp
        rw [hx] at ha
        exact .none ha
      · simp at hp
    · simp at hc
  | bin b x y =>
    simp only [plan] at hp
    cases hr : binA b (x.ev ρ) (y.ev ρ) with
    | none => simp [hr] at hp
    | some r =>
      simp only [hr, Option.map_some, Option.some.injEq, Prod.mk.injEq] at hp
      obtain ⟨_, rfl, rfl, rfl⟩ := hp
      refine .none ?_
      unfold binA at hr
      split at hr
      · split at hr
        · split at hr <;> first | (simp at hr; done) | (simp only [Option.some.injEq] at hr; subst hr; trivial)
        · unfold shiftA at hr
          split at hr <;> first | (simp at hr; done) | (simp only [Option.some.injEq] at hr; subst hr; trivial)
      · split at hr <;> first | (simp at hr; done) | (simp only [Option.some.injEq] at hr; subst hr; trivial)
      · simp at hr
  | eqS ng ks x y =>
    simp only [plan] at hp
    split at hp
    · rename_i xs ys _ _
      cases hr : eqC ks xs ys with
      | none => simp [hr] at hp
      | some r =>
        simp only [hr, Option.map_some, Option.some.injEq, Prod.mk.injEq] at hp
        obtain ⟨_, rfl, rfl, rfl⟩ := hp
        exact .none trivial
    · simp at hp
  | eqB ng x y =>
    simp only [plan] at hp
    split at hp
    · simp only [ok, Option.some.injEq, Prod.mk.injEq] at hp
      obtain ⟨_, rfl, rfl, rfl⟩ := hp
      exact .none trivial
    · simp at hp
  | neNil x =>
    simp only [plan] at hp
    split at hp
    all_goals first | (simp at hp; done) | skip
    all_goals
      simp only [ok, Option.some.injEq, Prod.mk.injEq] at hp
      obtain ⟨_, rfl, rfl, rfl⟩ := hp
      exact .none trivial
  | un u x =>
    simp only [plan] at hp
    split at hp
    all_goals first | (simp at hp; done) | skip
    all_goals
      simp only [ok, Option.some.injEq, Prod.mk.injEq] at hp
      obtain ⟨_, rfl, rfl, rfl⟩ := hp
      exact .none trivial
  | cvi k x =>
    simp only [plan] at hp
    split at hp
    all_goals first | (simp at hp; done) | skip
    all_goals
      simp only [ok, Option.some.injEq, Prod.mk.injEq] at hp
      obtain ⟨_, rfl, rfl, rfl⟩ := hp
      exact .none trivial
  | cvs x =>
    simp only [chkOp] at hc
    split at hc
    · simp only [Bool.and_eq_true] at hc
      have ha := arg_bnd ht hc.1.1
      simp only [plan] at hp
      cases hsrc : srcA h 1 (x.ev ρ) with
      | none => simp [hsrc] at hp
      | some r =>
        obtain ⟨cond, xs, rd⟩ := r
        simp only [hsrc, Option.bind_some] at hp
        cases hbs : bytesOf xs with
        | none => simp [hbs] at hp
        | some l =>
          simp only [hbs, Option.map_some, Option.some.injEq, Prod.mk.injEq] at hp
          obtain ⟨_, rfl, rfl, rfl⟩ := hp
          have g := (src_bnd hsrc ha hbr).2
          exact ⟨Nat.le_refl _, trivial, fun x hx => (g x hx).1, fun x hx hn => absurd hn (g x hx).2.1, fun x hx => by
            cases hl : x.2.1 with
            | none => exact absurd hl (g x hx).2.1
            | some row => exact (hb x.1 row (by rw [(g x hx).1, hl])).1, fun x hx row hr => hbr x.1 row (by rw [(g x hx).1, ← (g x hx).2.2, hr])⟩
    · simp at hc
  | mkS z b l c =>
    simp only [chkOp] at hc
    split at hc
    · simp only [Bool.and_eq_true] at hc
      have h2 := hc.2
      split at h2
      · simp only [Bool.and_eq_true] at h2
        obtain ⟨i, z', hi, hs, hz, hzv, hzo⟩ := chkZero_some h2.1.1
        simp only [plan] at hp
        split at hp
        · simp only [Option.some.injEq, Prod.mk.injEq] at hp
          obtain ⟨_, rfl, rfl, rfl⟩ := hp
          exact .fresh hb (by simp [bnd]) (replicate_bnd (chkVs_bnd hzv) _)
        · simp at hp
      · simp at h2
    · simp at hc
  | cut s x l hi =>
    simp only [chkOp] at hc
    split at hc
    · simp only [Bool.and_eq_true] at hc
      have ha := arg_bnd ht hc.1.1.1
      simp only [plan] at hp
      cases hl0 : bnd? ρ 0 l with
      | none => simp [hl0] at hp
      | some lo =>
        simp only [hl0, Option.bind_some] at hp
        split at hp
        · cases hh : bnd? ρ 0 hi with
          | none => simp [hh] at hp
          | some k =>
            simp only [hh, Option.map_some, Option.some.injEq, Prod.mk.injEq] at hp
            obtain ⟨_, rfl, rfl, rfl⟩ := hp
            exact .none trivial
        · rename_i nm off len hx
          rw [hx] at ha
          cases hl : look h nm with
          | none => simp [hl] at hp
          | some row =>
            simp only [hl, Option.bind_some] at hp
            cases hh : bnd? ρ len hi with
            | none => simp [hh] at hp
            | some k =>
              simp only [hh, Option.map_some, Option.some.injEq, Prod.mk.injEq] at hp
              obtain ⟨_, rfl, rfl, rfl⟩ := hp
              exact .read hb (by exact ha) hl
        · rename_i s' rows hx
          rw [hx] at ha
          cases hh : bnd? ρ rows.length hi with
          | none => simp [hh] at hp
          | some k =>
            simp only [hh, Option.map_some, Option.some.injEq, Prod.mk.injEq] at hp
            obtain ⟨_, rfl, rfl, rfl⟩ := hp
            exact .none (bndr_take (bndr_drop ha _) _)
        · rename_i s' rows hx
          rw [hx] at ha
          cases hh : bnd? ρ rows.length hi with
          | none => simp [hh] at hp
          | some k =>
            simp only [hh, Option.map_some, Option.some.injEq, Prod.mk.injEq] at hp
            obtain ⟨_, rfl, rfl, rfl⟩ := hp
            exact .none (bndr_take (bndr_drop ha _) _)
        · simp at hp
    · simp at hc
  | cutS x l hi =>
    simp only [plan] at hp
    cases hl0 : bnd? ρ 0 l with
    | none => simp [hl0] at hp
    | some lo =>
      simp only [hl0, Option.bind_some] at hp
      split at hp
      · rename_i s hx
        cases hh : bnd? ρ s.size hi with
        | none => simp [hh] at hp
        | some k =>
          simp only [hh, Option.map_some, Option.some.injEq, Prod.mk.injEq] at hp
          obtain ⟨_, rfl, rfl, rfl⟩ := hp
          exact .none trivial
      · simp at hp
  | fad f x =>
    simp only [chkOp] at hc
    split at hc
    · simp only [Bool.and_eq_true] at hc
      have ha := arg_bnd ht hc.1
      simp only [plan] at hp
      split at hp
      · rename_i nm i f hx
        rw [hx] at ha
        cases hl : look h nm with
        | none => simp [hl] at hp
        | some row =>
          simp only [hl, Option.map_some, Option.some.injEq, Prod.mk.injEq] at hp
          obtain ⟨_, rfl, rfl, rfl⟩ := hp
          exact .read hb (by exact ha) hl
      · rename_i hx
        simp only [ok, Option.some.injEq, Prod.mk.injEq] at hp
        obtain ⟨_, rfl, rfl, rfl⟩ := hp
        rw [hx] at ha
        exact .none ha
      · simp at hp
    · simp at hc
  | fld f n ag x =>
    simp only [chkOp] at hc
    split at hc
    · simp only [Bool.and_eq_true] at hc
      have ha := arg_bnd ht hc.1
      simp only [plan] at hp
      split at hp
      · rename_i cs hx
        rw [hx] at ha
        simp only [Option.some.injEq, Prod.mk.injEq] at hp
        obtain ⟨_, rfl, rfl, rfl⟩ := hp
        refine .none ?_
        cases ag
        · exact bnds_getD ha f
        · exact bnds_take (bnds_drop ha f) n
      · simp at hp
    · simp at hc
  | iad s x i =>
    simp only [chkOp] at hc
    split at hc
    · simp only [Bool.and_eq_true] at hc
      have ha := arg_bnd ht hc.1.1
      simp only [plan] at hp
      split at hp
      · rename_i nm off len _ j hx hi
        rw [hx] at ha
        cases hl : look h nm with
        | none => simp [hl] at hp
        | some row =>
          simp only [hl, Option.map_some, Option.some.injEq, Prod.mk.injEq] at hp
          obtain ⟨_, rfl, rfl, rfl⟩ := hp
          exact .read hb (by exact ha) hl
      · rename_i hx hi
        rw [hx] at ha
        simp only [Option.some.injEq, Prod.mk.injEq] at hp
        obtain ⟨_, rfl, rfl, rfl⟩ := hp
        exact .none (bndr_getD ha _)
      · rename_i hx hi
        rw [hx] at ha
        simp only [Option.some.injEq, Prod.mk.injEq] at hp
        obtain ⟨_, rfl, rfl, rfl⟩ := hp
        exact .none (bndr_getD ha _)
      · simp at hp
    · simp at hc
  | idx x i =>
    simp only [plan] at hp
    split at hp
    · simp only [Option.some.injEq, Prod.mk.injEq] at hp
      obtain ⟨_, rfl, rfl, rfl⟩ := hp
      exact .none trivial
    · simp at hp
  | ext x i =>
    simp only [chkOp] at hc
    split at hc
    · simp only [Bool.and_eq_true] at hc
      have ha := arg_bnd ht hc.1
      simp only [plan] at hp
      split at hp
      · rename_i hx
        rw [hx] at ha
        simp only [Option.some.injEq, Prod.mk.injEq] at hp
        obtain ⟨_, rfl, rfl, rfl⟩ := hp
        exact .none (bnds_getD ha i)
      · simp at hp
    · simp at hc
  | len x =>
    simp only [plan] at hp
    split at hp
    · simp only [ok, Option.some.injEq, Prod.mk.injEq] at hp
      obtain ⟨_, rfl, rfl, rfl⟩ := hp
      exact .none trivial
    · rename_i nm off l hx
      cases hl : look h nm with
      | none => simp [hl] at hp
      | some row =>
        simp only [hl, Option.map_some, Option.some.injEq, Prod.mk.injEq] at hp
        obtain ⟨_, rfl, rfl, rfl⟩ := hp
        exact .read hb (v := .int _ _) trivial hl
    · simp only [ok, Option.some.injEq, Prod.mk.injEq] at hp
      obtain ⟨_, rfl, rfl, rfl⟩ := hp
      exact .none trivial
    · simp only [ok, Option.some.injEq, Prod.mk.injEq] at hp
      obtain ⟨_, rfl, rfl, rfl⟩ := hp
      exact .none trivial
    · simp at hp
  | lenS x =>
    simp only [plan] at hp
    split at hp
    · simp only [ok, Option.some.injEq, Prod.mk.injEq] at hp
      obtain ⟨_, rfl, rfl, rfl⟩ := hp
      exact .none trivial
    · simp at hp
  | mx x y =>
    simp only [plan] at hp
    split at hp
    · split at hp
      · simp only [ok, Option.some.injEq, Prod.mk.injEq] at hp
        obtain ⟨_, rfl, rfl, rfl⟩ := hp
        exact .none trivial
      · simp at hp
    · simp at hp
  | clr z x =>
    simp only [chkOp] at hc
    split at hc
    · split at hc
      · rename_i args tys hop _ _ y t ha ht1
        simp only [Bool.and_eq_true] at hc
        obtain ⟨c1, c2⟩ := hc
        cases hel : elemOf? P t with
        | none => simp [hel] at c2
        | some el =>
          simp only [hel] at c2
          obtain ⟨i, z', hi, his, hz, hzv, hzo⟩ := chkZero_some c2
          simp only [plan] at hp
          split at hp
          · rename_i nm off len hx
            cases hl : look h nm with
            | none => simp [hl] at hp
            | some row =>
              simp only [hl, Option.map_some, Option.some.injEq, Prod.mk.injEq] at hp
              obtain ⟨_, rfl, rfl, rfl⟩ := hp
              have hr := hb nm row hl
              exact ⟨Nat.le_refl _, trivial, by simpa using hl, by simp, by simpa using hr.1, by
                simp only [List.mem_singleton, forall_eq, Option.some.injEq]
                rintro _ rfl
                refine bndr_iff.2 fun r h => ?_
                rcases List.mem_append.1 h with h | h
                · exact bndr_iff.1 hr.2 r (List.mem_of_mem_take h)
                · exact bndr_iff.1 (replicate_bnd (chkVs_bnd hzv) len) r h⟩
          · simp at hp
      · simp at hc
    · simp at hc
  | app s b x y =>
    simp only [chkOp] at hc
    split at hc
    · split at hc
      · simp only [Bool.and_eq_true] at hc
        have hx := arg_bnd ht hc.1.1.1
        have hy := arg_bnd ht hc.1.1.2
        simp only [plan] at hp
        cases hsrc : srcA h s (y.ev ρ) with
        | none => simp [hsrc] at hp
        | some r =>
          obtain ⟨cond, xs, rd⟩ := r
          simp only [hsrc, Option.bind_some] at hp
          obtain ⟨gx, g⟩ := src_bnd hsrc hy hbr
          have glt : ∀ x ∈ rd, x.1 < nx := fun x hx => by
            cases hl : x.2.1 with
            | none => exact absurd hl (g x hx).2.1
            | some row => exact (hb x.1 row (by rw [(g x hx).1, hl])).1
          have grow : ∀ x ∈ rd, ∀ row, x.2.2 = some row → bndr (· < nx) row.2 := fun x hx row hr => hbr x.1 row (by rw [(g x hx).1, ← (g x hx).2.2, hr])
          have mono : ∀ k, k < nx → k < nx + 1 := fun k hk => by omega
          split at hp
          · simp only [Option.some.injEq, Prod.mk.injEq] at hp
            obtain ⟨_, rfl, rfl, rfl⟩ := hp
            refine ⟨by omega, by simp [bnd], ?_, ?_, ?_, ?_⟩ <;> intro x hx <;> rcases List.mem_append.1 hx with hx | hx
            · exact (g x hx).1
            · simp only [List.mem_singleton] at hx; subst hx; exact hb.new (Nat.le_refl _)
            · exact fun hn => absurd hn (g x hx).2.1
            · simp only [List.mem_singleton] at hx; subst hx; exact fun _ => Nat.le_refl _
            · exact mono _ (glt x hx)
            · simp only [List.mem_singleton] at hx; subst hx; exact Nat.lt_succ_self _
            · exact fun row hr => bndr_mono mono _ (grow x hx row hr)
            · simp only [List.mem_singleton] at hx; subst hx
              intro row hr
              simp only [Option.some.injEq] at hr
              subst hr
              exact bndr_mono mono _ gx
          · rename_i nm off len hx'
            cases hl : look h nm with
            | none => simp [hl] at hp
            | some row0 =>
              simp only [hl, Option.map_some, Option.some.injEq, Prod.mk.injEq] at hp
              obtain ⟨_, rfl, rfl, rfl⟩ := hp
              have hr0 := hb nm row0 hl
              refine ⟨by omega, by simp [bnd], ?_, ?_, ?_, ?_⟩ <;> intro x hx <;> rcases List.mem_append.1 hx with hx | hx
              · exact (g x hx).1
              · simp only [List.mem_cons, List.not_mem_nil, or_false] at hx
                rcases hx with rfl | rfl
                · exact hl
                · exact hb.new (Nat.le_refl _)
              · exact fun hn => absurd hn (g x hx).2.1
              · simp only [List.mem_cons, List.not_mem_nil, or_false] at hx
                rcases hx with rfl | rfl
                · simp
                · exact fun _ => Nat.le_refl _
              · exact mono _ (glt x hx)
              · simp only [List.mem_cons, List.not_mem_nil, or_false] at hx
                rcases hx with rfl | rfl
                · exact mono _ hr0.1
                · exact Nat.lt_succ_self _
              · exact fun row hr => bndr_mono mono _ (grow x hx row hr)
              · simp only [List.mem_cons, List.not_mem_nil, or_false] at hx
                rcases hx with rfl | rfl
                · simp
                · intro row hr
                  simp only [Option.some.injEq] at hr
                  subst hr
                  exact bndr_mono mono _ (bndr_app (bndr_drop hr0.2 _) gx)
          · simp at hp
      · simp at hc
    · simp at hc
  | call f ps xs => simp [plan] at hp
  | calv f xs => simp [plan] at hp

end
end Go.Sep
