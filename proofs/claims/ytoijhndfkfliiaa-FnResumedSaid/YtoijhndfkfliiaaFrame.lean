/- A step touches some rows; all others lie as they lay. -/
import Derived.Test.YtoijhndfkfliiaaHeap
namespace Go.Sep
set_option linter.unusedVariables false
set_option linter.unusedSimpArgs false

/-- The outside world is as it was. -/
def SameIo (w w' : World) : Prop := w'.os = w.os ∧ w'.tape = w.tape ∧ w'.output = w.output

theorem SameIo.refl (w : World) : SameIo w w := ⟨rfl, rfl, rfl⟩
theorem SameIo.trans {w w' w'' : World} (h : SameIo w w') (h' : SameIo w' w'') : SameIo w w'' := ⟨h'.1.trans h.1, h'.2.1.trans h.2.1, h'.2.2.trans h.2.2⟩

/-- From e to e' the rows of the names F turn from H to H'; all else lies as it lay. -/
structure Turns (e : Env) (H : Nat → Option Row) (Lf : Nat → List Nat) (F : Nat → Prop) (e' : Env) (H' : Nat → Option Row) (Lf' : Nat → List Nat) : Prop where
  num : e'.num = e.num
  w0 : e'.w0 = e.w0
  Fr : e'.Fr = e.Fr
  Bo : e'.Bo = e.Bo
  io : SameIo e.w e'.w
  size : e.w.heap.size ≤ e'.w.heap.size
  keep : ∀ b, b < e.w.heap.size → (∀ nm, F nm → H nm ≠ none → b ∉ Lf nm) → e'.w.heap[b]? = e.w.heap[b]?
  φ : ∀ nm, ¬ F nm → e'.φ nm = e.φ nm
  φF : ∀ nm, F nm → H nm ≠ none → e'.φ nm = e.φ nm ∨ e'.φ nm = .dead
  rest : ∀ nm, ¬ F nm → H' nm = H nm
  row : ∀ nm row, F nm → H' nm = some row → RowAt e' nm row (Lf' nm)
  nodup : ∀ nm, F nm → H' nm ≠ none → (Lf' nm).Nodup
  blk : ∀ nm, F nm → H' nm ≠ none → ∀ b ∈ Lf' nm, b < e'.w.heap.size ∧ (e.w.heap.size ≤ b ∨ ∃ m, F m ∧ H m ≠ none ∧ b ∈ Lf m)
  dis : ∀ n m, F n → F m → H' n ≠ none → H' m ≠ none → n ≠ m → ∀ b ∈ Lf' n, b ∉ Lf' m
  dead : ∀ nm, F nm → H' nm = none → e'.φ nm = .dead

open Classical in
noncomputable def mix (F : Nat → Prop) (Lf Lf' : Nat → List Nat) (nm : Nat) : List Nat := if F nm then Lf' nm else Lf nm

theorem mix_pos {F : Nat → Prop} {Lf Lf' : Nat → List Nat} {nm : Nat} (h : F nm) : mix F Lf Lf' nm = Lf' nm := by simp [mix, h]
theorem mix_neg {F : Nat → Prop} {Lf Lf' : Nat → List Nat} {nm : Nat} (h : ¬ F nm) : mix F Lf Lf' nm = Lf nm := by simp [mix, h]

/-- What holds of the world in which a call began: w0, its own blocks L0. -/
structure Ok (e : Env) (L0 : List Nat) (H : Nat → Option Row) (Lf : Nat → List Nat) : Prop where
  size0 : e.w0.heap.size ≤ e.w.heap.size
  io0 : SameIo e.w0 e.w
  fr : ∀ b, e.Fr b ∨ e.Bo b → b < e.w0.heap.size ∧ b ∉ L0
  keep0 : ∀ b, b < e.w0.heap.size → b ∉ L0 → e.w.heap[b]? = e.w0.heap[b]?
  own0 : ∀ nm, H nm ≠ none → ∀ b ∈ Lf nm, b ∈ L0 ∨ e.w0.heap.size ≤ b
  rh : RH e H Lf

theorem Ok.frozen_cell {e : Env} {L0 : List Nat} {H : Nat → Option Row} {Lf : Nat → List Nat} (h : Ok e L0 H Lf) {b : Nat} (hb : e.Fr b ∨ e.Bo b) (o : Nat) :
    e.w.cell? ⟨b, o, none⟩ = e.w0.cell? ⟨b, o, none⟩ :=
  cell_of_heap (h.keep0 b (h.fr b hb).1 (h.fr b hb).2) o

/-- e' keeps what e tells, of the names A, besides the touched rows' blocks. -/
theorem Turns.keeps {e e' : Env} {H H' : Nat → Option Row} {Lf Lf' : Nat → List Nat} {F A : Nat → Prop} {L : List Nat} (t : Turns e H Lf F e' H' Lf')
    (hφ : ∀ nm, A nm → F nm → H nm = none → e'.φ nm = .dead) (hd : ∀ nm, H nm = none → e.φ nm = .dead)
    (hL : ∀ b ∈ L, b < e.w.heap.size ∧ ∀ nm, F nm → H nm ≠ none → b ∉ Lf nm) : Keeps e e' A L where
  num := t.num
  fr m b h := by cases m <;> simp_all [Env.frozen, t.Fr, t.Bo]
  cells b h o := by rw [t.w0]
  φ nm hn := by
    by_cases hF : F nm
    · by_cases hH : H nm = none
      · exact .inr (hφ nm hn hF hH)
      · exact t.φF nm hF hH
    · exact .inl (t.φ nm hF)
  own b hb := t.keep b (hL b hb).1 (hL b hb).2

theorem Turns.ok {e e' : Env} {L0 : List Nat} {H H' : Nat → Option Row} {Lf Lf' : Nat → List Nat} {F A : Nat → Prop} (t : Turns e H Lf F e' H' Lf') (h : Ok e L0 H Lf)
    (hb : ∀ nm row, H nm = some row → bndr A row.2) (hφ : ∀ nm, A nm → F nm → H nm = none → e'.φ nm = .dead) : Ok e' L0 H' (mix F Lf Lf') where
  size0 := by rw [t.w0]; exact Nat.le_trans h.size0 t.size
  io0 := by rw [t.w0]; exact h.io0.trans t.io
  fr b hb := by rw [t.w0]; rw [t.Fr, t.Bo] at hb; exact h.fr b hb
  keep0 b h1 h2 := by
    rw [t.w0] at h1 ⊢
    rw [t.keep b (Nat.lt_of_lt_of_le h1 h.size0) (fun nm _ hn hm => ?_)]
    · exact h.keep0 b h1 h2
    · rcases h.own0 nm hn b hm with h3 | h3
      · exact h2 h3
      · omega
  own0 nm hn b hb' := by
    rw [t.w0]
    by_cases hF : F nm
    · rw [mix_pos hF] at hb'
      obtain ⟨_, h3 | ⟨m, h4, h5, h6⟩⟩ := t.blk nm hF hn b hb'
      · exact .inr (Nat.le_trans h.size0 h3)
      · exact h.own0 m h5 b h6
    · rw [mix_neg hF] at hb'
      rw [t.rest nm hF] at hn
      exact h.own0 nm hn b hb'
  rh := {
    row := fun nm row hr => by
      by_cases hF : F nm
      · rw [mix_pos hF]; exact t.row nm row hF hr
      · rw [mix_neg hF]
        rw [t.rest nm hF] at hr
        refine (h.rh.row nm row hr).keep (t.keeps hφ h.rh.dead ?_) (t.φ nm hF) (hb nm row hr)
        intro b hb'
        refine ⟨(h.rh.blk nm (by simp [hr]) b hb').1, fun m hm hn => ?_⟩
        exact h.rh.dis nm m (by simp [hr]) hn (fun he => hF (he ▸ hm)) b hb'
    nodup := fun nm hn => by
      by_cases hF : F nm
      · rw [mix_pos hF]; exact t.nodup nm hF hn
      · rw [mix_neg hF]; rw [t.rest nm hF] at hn; exact h.rh.nodup nm hn
    blk := fun nm hn b hb' => by
      rw [t.Fr, t.Bo]
      by_cases hF : F nm
      · rw [mix_pos hF] at hb'
        obtain ⟨h2, h3 | ⟨m, h4, h5, h6⟩⟩ := t.blk nm hF hn b hb'
        · refine ⟨h2, ?_, ?_⟩
          · intro hf; have := (h.fr b (.inl hf)).1; have := h.size0; omega
          · intro hf; have := (h.fr b (.inr hf)).1; have := h.size0; omega
        · exact ⟨h2, (h.rh.blk m h5 b h6).2⟩
      · rw [mix_neg hF] at hb'
        rw [t.rest nm hF] at hn
        have := h.rh.blk nm hn b hb'
        exact ⟨Nat.lt_of_lt_of_le this.1 t.size, this.2⟩
    dis := fun n m hn hm hne b hb1 hb2 => by
      by_cases hF : F n <;> by_cases hG : F m
      · rw [mix_pos hF] at hb1; rw [mix_pos hG] at hb2
        exact t.dis n m hF hG hn hm hne b hb1 hb2
      · rw [mix_pos hF] at hb1; rw [mix_neg hG] at hb2
        rw [t.rest m hG] at hm
        obtain ⟨_, h3 | ⟨k, h4, h5, h6⟩⟩ := t.blk n hF hn b hb1
        · have := (h.rh.blk m hm b hb2).1; omega
        · exact h.rh.dis k m h5 hm (fun he => hG (he ▸ h4)) b h6 hb2
      · rw [mix_neg hF] at hb1; rw [mix_pos hG] at hb2
        rw [t.rest n hF] at hn
        obtain ⟨_, h3 | ⟨k, h4, h5, h6⟩⟩ := t.blk m hG hm b hb2
        · have := (h.rh.blk n hn b hb1).1; omega
        · exact h.rh.dis k n h5 hn (fun he => hF (he ▸ h4)) b h6 hb1
      · rw [mix_neg hF] at hb1; rw [mix_neg hG] at hb2
        rw [t.rest n hF] at hn; rw [t.rest m hG] at hm
        exact h.rh.dis n m hn hm hne b hb1 hb2
    dead := fun nm hn => by
      by_cases hF : F nm
      · exact t.dead nm hF hn
      · rw [t.φ nm hF]; rw [t.rest nm hF] at hn; exact h.rh.dead nm hn }

end Go.Sep
