/- Stores into named rows. -/
import Derived.Test.YtoijhndfkfliiaaMem
namespace Go.Sep
set_option linter.unusedVariables false
set_option linter.unusedSimpArgs false

section
variable {P : Program} {num : Nat → Nat} {o : Oper} {ρ : Nat → AV} {h : Heap} {nx nx' : Nat} {p : Prop} {v : AV} {fp : FP}

theorem setBlk_io (w : World) (b : Nat) (o : Obj) : SameIo w (World.setBlk w b o) := ⟨rfl, rfl, rfl⟩

/-- One named row turns, in its own block, with no more blocks than it had; its place stays. -/
theorem Turns.one {e : Env} {L0 : List Nat} {H : Nat → Option Row} {Lf : Nat → List Nat} {nm : Nat} {row row' : Row} {w' : World} {L' : List Nat} {b : Nat} (hk : Ok e L0 H Lf) (hrow : H nm = some row) (hb : b ∈ Lf nm)
    (hio : SameIo e.w w') (hs : w'.heap.size = e.w.heap.size) (hw : ∀ c, c ≠ b → w'.heap[c]? = e.w.heap[c]?) (hr : RowAt { e with w := w' } nm row' L') (hnd : L'.Nodup) (hsub : ∀ c ∈ L', c ∈ Lf nm) :
    Turns e H Lf (fun n => n ∈ ([(nm, some row, some row')] : FP).map (·.1)) { e with w := w' } (upH H [(nm, some row, some row')]) (fun n => if n = nm then L' else Lf n) := by
  have hF : ∀ n, n ∈ ([(nm, some row, some row')] : FP).map (·.1) ↔ n = nm := by simp
  have hH : ∀ n, upH H [(nm, some row, some row')] n = if n = nm then some row' else H n := fun n => rfl
  refine { num := rfl, w0 := rfl, Fr := rfl, Bo := rfl, io := hio, size := by simp [hs], keep := ?_, φ := fun _ _ => rfl, φF := fun _ _ _ => .inl rfl, rest := ?_, row := ?_, nodup := ?_, blk := ?_, dis := ?_, dead := ?_ }
  · intro c _ hc
    exact hw c (fun he => hc nm ((hF nm).2 rfl) (by simp [hrow]) (he ▸ hb))
  · intro n hn
    rw [hH, if_neg (fun he => hn ((hF n).2 he))]
  · intro n r hn hr'
    obtain rfl := (hF n).1 hn
    rw [hH, if_pos rfl] at hr'
    simp only [Option.some.injEq] at hr'
    subst hr'
    simpa using hr
  · intro n hn _
    obtain rfl := (hF n).1 hn
    simpa using hnd
  · intro n hn _ c hc
    obtain rfl := (hF n).1 hn
    simp only [if_true] at hc
    exact ⟨by simp only [hs]; exact (hk.rh.blk n (by simp [hrow]) c (hsub c hc)).1, .inr ⟨n, hn, by simp [hrow], hsub c hc⟩⟩
  · intro n m hn hm _ _ hne
    exact absurd (((hF n).1 hn).trans ((hF m).1 hm).symm) hne
  · intro n hn hno
    obtain rfl := (hF n).1 hn
    rw [hH, if_pos rfl] at hno
    simp at hno

theorem tri_store {n : Nat} {x z : Arg} {nm i f : Nat} {row : Row} (hc : chkOp P num (.store n x z) o.op = true) (hx : x.ev ρ = .ptr nm i f) (hi : i < row.2.length) (hf : f + n ≤ (row.2.getD i []).length)
    (hz : (cellsOf (z.ev ρ)).length = n) (hzo : (cellsOf (z.ev ρ)).all cellOk = true) :
    Tri P num o ρ .any [(nm, some row, some (row.1, row.2.set i (splice (row.2.getD i []) f (cellsOf (z.ev ρ)))))] := by
  simp only [chkOp] at hc
  split at hc
  · rename_i t y u hop
    simp only [Bool.and_eq_true] at hc
    obtain ⟨⟨h1, h2⟩, h3⟩ := hc
    obtain ⟨ti, hti, hs⟩ := sizeIs_some h3
    intro e L0 H Lf A a K Q hn hk hpre hbt hbh hfr ht k
    subst hn
    have hrow : H nm = some row := hpre _ List.mem_cons_self
    have hr := hk.rh.row nm row hrow
    have g := RV_arg (ρ := ρ) ht h1
    rw [hx] at g
    have gz := cells_value hzo (RV_arg (ρ := ρ) ht h2)
    have gzl := RVs_length gz
    obtain ⟨q, hq, g2⟩ := ptr_at hr g
    have hr' := hr
    unfold RowAt RowSp at hr'
    rw [hq] at hr'
    obtain ⟨q1, q2, Lr, q3, q4⟩ := hr'
    obtain ⟨vs, L1, L2, L3, r1, r2, r3, r4, r5, r6, r7, r8, r9⟩ := at_cells q1 q3 hi hf
    obtain ⟨La, Lm, Lc, s1, s2, s3, s4⟩ := RVs_split3 f n r4 hf
    have hrb := hbh nm row hrow
    have hrb1 : bnds A (row.2.getD i []) := by rw [getD_get hi]; exact bndr_iff.1 hrb _ (List.getElem_mem hi)
    obtain ⟨sz0, q5, arr, ty, q6, q7⟩ := q2
    have husz : (a.eval u).cells.size = n := by simp at gzl; omega
    have husl : (a.eval u).cells.toList.length = n := by simpa using husz
    have hroom : q.off + i * q.sz + f + n ≤ arr.size := by
      have h5 : (i + 1) * q.sz ≤ q.cap * q.sz := Nat.mul_le_mul_right _ (by omega)
      rw [Nat.add_mul] at h5
      have h6 := r1.1
      omega
    have hrun : (execOp a.eval o).run P e.w = .ok .skip (World.setBlk e.w q.block (.cells (arrSet arr (q.off + i * q.sz + f) (a.eval u).cells.toList) ty (0, 0))) := by
      simp only [execOp, hop, g2, Sem.run_bind, Instr.storeAt, Instr.sureAddr, Sem.run_pure, Result.andThen_ok]
      rw [run_storeVar hti (by rw [hs]; exact husz) q6 (cells_one hzo gz) (by rw [hs]; exact hroom)]
      rfl
    have hbl : q.block < e.w.heap.size := (Array.getElem?_eq_some_iff.1 q6).1
    have hLf : Lf nm = q.block :: (L1 ++ ((La ++ (Lm ++ Lc)) ++ L3)) := by rw [q4, r7, s1]
    have hnd := hk.rh.nodup nm (by simp [hrow])
    rw [hLf] at hnd
    have hnb : ∀ b ∈ L1 ++ ((La ++ (Lm ++ Lc)) ++ L3), b ≠ q.block := fun b hb he => (List.nodup_cons.1 hnd).1 (he ▸ hb)
    have kp : ∀ L : List Nat, (∀ b ∈ L, b ∈ L1 ++ ((La ++ (Lm ++ Lc)) ++ L3)) → Keeps e { e with w := World.setBlk e.w q.block (.cells (arrSet arr (q.off + i * q.sz + f) (a.eval u).cells.toList) ty (0, 0)) } A L := fun L hL => {
      num := rfl
      fr := fun m b h => by cases m <;> exact h
      cells := fun b _ o => rfl
      φ := fun nm hA => .inl rfl
      own := fun b hb => setBlk_other _ _ _ _ (fun he => hnb b (hL b hb) he.symm) }
    have hblk : (World.setBlk e.w q.block (.cells (arrSet arr (q.off + i * q.sz + f) (a.eval u).cells.toList) ty (0, 0))).heap[q.block]? = some (.cells (arrSet arr (q.off + i * q.sz + f) (a.eval u).cells.toList) ty (0, 0)) := setBlk_at _ _ _ hbl
    have hcell : ∀ j, j < q.off + i * q.sz + f ∨ q.off + i * q.sz + f + n ≤ j → (World.setBlk e.w q.block (.cells (arrSet arr (q.off + i * q.sz + f) (a.eval u).cells.toList) ty (0, 0))).cell? ⟨q.block, j, none⟩ = e.w.cell? ⟨q.block, j, none⟩ := by
      intro j hj
      rw [cell_blk hblk, cell_blk q6, arrSet_other _ _ _ _ (by rw [husl]; exact hj)]
    refine wp_skipped hrun (k _ _ undef (Turns.one (b := q.block) (L' := q.block :: (L1 ++ ((La ++ Lc) ++ L3))) hk hrow (by rw [hLf]; simp) (setBlk_io _ _ _) (setBlk_size _ _ _) (fun c hc => setBlk_other _ _ _ _ (fun he => hc he.symm)) ?_ ?_ ?_) (by simp [RV]))
    · unfold RowAt RowSp
      simp only [hq]
      refine ⟨q1, ⟨sz0, by simpa using q5, _, ty, hblk, by rw [arrSet_size]; exact q7⟩, _, ?_, rfl⟩
      have hb1 : bndr A (row.2.take i) := bndr_iff.2 fun r hr => bndr_iff.1 hrb r (List.mem_of_mem_take hr)
      have hb3 : bndr A (row.2.drop (i + 1)) := bndr_iff.2 fun r hr => bndr_iff.1 hrb r (List.mem_of_mem_drop hr)
      have htl : (row.2.take i).length = i := by simp; omega
      have hdl : (row.2.drop (i + 1)).length = row.2.length - (i + 1) := by simp
      have m1 : (i + 1) * q.sz = i * q.sz + q.sz := by rw [Nat.add_mul]; omega
      have r11 := r1.1
      have hrlen : (splice (row.2.getD i []) f (cellsOf (z.ev ρ))).length = q.sz ∧ (splice (row.2.getD i []) f (cellsOf (z.ev ρ))).all cellOk = true := by
        refine ⟨by rw [← r1.1]; exact splice_length _ _ _ (by rw [hz]; exact hf), ?_⟩
        unfold splice
        simp only [List.all_append, Bool.and_eq_true]
        exact ⟨⟨List.all_eq_true.2 fun c hc => List.all_eq_true.1 r1.2 c (List.mem_of_mem_take hc), hzo⟩, List.all_eq_true.2 fun c hc => List.all_eq_true.1 r1.2 c (List.mem_of_mem_drop hc)⟩
      refine RRows_join (vs := vs.take f ++ (a.eval u).cells.toList ++ vs.drop (f + n)) i hi hrlen (by simp; omega) ?_ ?_
        (RRows_cells _ (fun j h1 h2 => hcell j (.inl ?_)) (RRows_keep _ (kp _ (by simp +contextual)) hb1 (fun _ _ => rfl) r5))
        (RRows_cells _ (fun j h1 h2 => hcell j (.inr ?_)) (RRows_keep _ (kp _ (by simp +contextual)) hb3 (fun _ _ => rfl) r6))
      · intro j hj
        by_cases j1 : j < f
        · rw [hcell _ (.inl (by omega)), r3 j hj, List.append_assoc, List.getElem?_append_left (by simp; omega)]
          simp [j1]
        · by_cases j2 : j < f + n
          · rw [cell_blk hblk, show q.off + i * q.sz + j = q.off + i * q.sz + f + (j - f) by omega, arrSet_at _ _ _ _ (by omega) (by rw [husl]; exact hroom)]
            have e1 : (vs.take f).length = f := by simp; omega
            rw [List.append_assoc, List.getElem?_append_right (by omega), e1, List.getElem?_append_left (by omega)]
          · rw [hcell _ (.inr (by omega)), r3 j hj]
            have e1 : (vs.take f ++ (a.eval u).cells.toList).length = f + n := by rw [List.length_append, husl]; simp; omega
            rw [List.getElem?_append_right (by omega), e1]
            simp
            congr 1
            omega
      · unfold splice
        rw [hz]
        refine (RVs_append _ _).2 ⟨_, _, La, Lc, rfl, rfl, (RVs_append _ _).2 ⟨_, _, La, [], rfl, by simp, ?_, ?_⟩, ?_⟩
        · exact RVs_keep _ (kp _ (by simp +contextual)) (bnds_iff.2 fun c hc => bnds_iff.1 hrb1 c (List.mem_of_mem_take hc)) s2
        · exact RVs_keep _ (kp _ (by simp)) (cellsOf_bnd (arg_bnd hbt h2)) gz
        · exact RVs_keep _ (kp _ (by simp +contextual)) (bnds_iff.2 fun c hc => bnds_iff.1 hrb1 c (List.mem_of_mem_drop hc)) s4
      · rw [htl] at h2
        omega
      · omega
    · exact hnd.sublist (List.Sublist.cons_cons _ ((List.Sublist.refl _).append (((List.Sublist.refl _).append (List.sublist_append_right _ _)).append (List.Sublist.refl _))))
    · intro b hb
      rw [hLf]
      simp only [List.mem_cons, List.mem_append] at hb ⊢
      rcases hb with h | h | (h | h) | h
      · exact .inl h
      · exact .inr (.inl h)
      · exact .inr (.inr (.inl (.inl h)))
      · exact .inr (.inr (.inl (.inr (.inr h))))
      · exact .inr (.inr (.inr h))
  · simp at hc

end
end Go.Sep
