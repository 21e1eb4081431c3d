/- append, whole. -/
import Derived.Test.YtoijhndfkfliiaaApp
namespace Go.Sep
set_option linter.unusedVariables false
set_option linter.unusedSimpArgs false

section
variable {P : Program} {num : Nat → Nat} {o : Oper} {ρ : Nat → AV} {h : Heap} {nx nx' : Nat} {p : Prop} {v : AV} {fp : FP}

theorem mem_free {A : Nat → Prop} {sz : Nat} {d : AV} {cond : Prop} {xs : List (List AV)} {rd : FP} {H : Nat → Option Row} (hs : srcA h sz d = some (cond, xs, rd)) (hb : bnd A d) (hbh : ∀ nm row, H nm = some row → bndr A row.2) (hpre : ∀ x ∈ rd, H x.1 = x.2.1) : bndr A xs := by
  unfold srcA at hs
  split at hs
  · simp only [Option.some.injEq, Prod.mk.injEq] at hs
    obtain ⟨_, rfl, _⟩ := hs
    trivial
  · rename_i nm off len
    cases hl : look h nm with
    | none => simp [hl] at hs
    | some row =>
      simp only [hl, Option.map_some, Option.some.injEq, Prod.mk.injEq] at hs
      obtain ⟨_, rfl, rfl⟩ := hs
      have := hbh nm row (hpre (nm, some row, some row) (by simp))
      exact bndr_iff.2 fun r hr => bndr_iff.1 this r (List.mem_of_mem_drop (List.mem_of_mem_take hr))
  · simp only [Option.some.injEq, Prod.mk.injEq] at hs
    obtain ⟨_, rfl, _⟩ := hs
    exact hb
  · simp only [Option.some.injEq, Prod.mk.injEq] at hs
    obtain ⟨_, rfl, _⟩ := hs
    exact hb
  · simp at hs

theorem src_pre {sz : Nat} {d : AV} {cond : Prop} {xs : List (List AV)} {rd : FP} {r : Nat × Option Row × Option Row} (hs : srcA h sz d = some (cond, xs, rd)) (hr : r ∈ rd) : r.2.1 ≠ none := by
  unfold srcA at hs
  split at hs
  · simp only [Option.some.injEq, Prod.mk.injEq] at hs
    obtain ⟨_, _, rfl⟩ := hs
    simp at hr
  · rename_i nm off len
    cases hl : look h nm with
    | none => simp [hl] at hs
    | some row =>
      simp only [hl, Option.map_some, Option.some.injEq, Prod.mk.injEq] at hs
      obtain ⟨_, _, rfl⟩ := hs
      simp only [List.mem_singleton] at hr
      subst hr
      simp
  · simp only [Option.some.injEq, Prod.mk.injEq] at hs
    obtain ⟨_, _, rfl⟩ := hs
    simp at hr
  · simp only [Option.some.injEq, Prod.mk.injEq] at hs
    obtain ⟨_, _, rfl⟩ := hs
    simp at hr
  · simp at hs

theorem cut_ge (need old el t : Nat) : need ≤ (Question.appendCap need old el).cut t := by simp [Question.cut]

/-- The model's append, where the row has no room. -/
theorem run_append_new {w : World} {t u ty el el' : TypeId} {i : TypeInfo} {z c : Value} {sb : Option Addr} {sLen sCap n : Nat} {olds news : List Value} (ht : P.underlying t = some (.slice el)) (hu : P.underlying u = some (.slice el'))
    (hi : P.info? el = some i) (hz : i.zero = some z) (hn : Builtin.lenOf c = pure n) (hfo : ∀ w' : World, w'.heap = w.heap → (Builtin.firstCells i.size sLen (.slice sb sLen sCap)).run P w' = .ok olds.toArray w')
    (hfn : ∀ w' : World, w'.heap = w.heap → (Builtin.firstCells i.size n c).run P w' = .ok news.toArray w') (hg : sCap < sLen + n) (h47 : sLen + n ≤ 2 ^ 47) (hb : i.bytes * (sLen + n) ≤ 2 ^ 47) :
    ∃ cap, sLen + n ≤ cap ∧ (Builtin.append_ #[t, u] ty #[.slice sb sLen sCap, c]).run P w =
      .ok (.slice (some ⟨w.heap.size, 0, none⟩) (sLen + n) cap) (w.drew.alloc (.cells (olds.toArray ++ news.toArray ++ Builtin.zeroCells z.cells (cap - (sLen + n))) el)) := by
  have h0 : ¬ (sLen + n ≤ sCap) := by omega
  have h63 : ¬ (((sLen + n : Nat) : Int) > IntKind.i64.max ∧ ((false : Bool) = true ∨ i.bytes = 0)) := by
    have : IntKind.i64.max = 9223372036854775807 := by decide
    rw [this]; omega
  have h48 : ¬ (Builtin.nextslicecap (sLen + n) sCap * i.bytes > 2 ^ 48) := by
    have h1 := Nat.mul_le_mul_right i.bytes (nextslicecap_le hg)
    have h2 : 2 * (sLen + n) * i.bytes = 2 * (i.bytes * (sLen + n)) := by rw [Nat.mul_assoc, Nat.mul_comm (sLen + n)]
    omega
  refine ⟨(Question.appendCap (sLen + n) sCap el).cut (w.tape w.drawn (.appendCap (sLen + n) sCap el)), cut_ge _ _ _ _, ?_⟩
  have hq : (Question.appendCap (sLen + n) sCap el).forced = false := rfl
  unfold Builtin.append_
  simp only [List.getElem?_toArray, List.getElem?_cons_zero, List.getElem?_cons_succ, Sem.run_bind, run_underlying' ht, run_underlying' hu, Result.andThen_ok, run_sizeOf' hi, Sem.run_pure, hn, Bool.not_false, if_true, Bool.false_eq_true, if_false]
  rw [if_neg h0]
  simp only [Sem.run_bind, run_typeInfo' hi, Result.andThen_ok]
  have h63' : ¬ ((((sLen + n : Nat) : Int) > IntKind.i64.max ∧ (False ∨ i.bytes = 0))) := by simpa using h63
  rw [if_neg h63']
  simp only [Sem.run_bind, run_typeInfo' hi, Result.andThen_ok]
  rw [if_neg h48]
  simp only [Sem.run_bind, run_choose, hq, Bool.false_eq_true, if_false, Result.andThen_ok, run_askRoom, run_typeInfo' hi]
  rw [World.drew_eq, hfo w.drew rfl]
  simp only [Result.andThen_ok]
  rw [hfn w.drew rfl]
  simp only [Result.andThen_ok, run_zeroValue' hi hz]
  rw [run_newRow]
  rfl

/-- The model's append, where the row has room. -/
theorem run_append_room' {w : World} {t u ty el el' : TypeId} {i : TypeInfo} {c : Value} {b o' sLen sCap n : Nat} {a : Addr} {news : List Value} {arr : Array Value} {ety : TypeId} (ht : P.underlying t = some (.slice el)) (hu : P.underlying u = some (.slice el'))
    (hi : P.info? el = some i) (hn : Builtin.lenOf c = pure n) (hfn : (Builtin.firstCells i.size n c).run P w = .ok news.toArray w) (hg : sLen + n ≤ sCap) (ha : 0 < sCap → a = ⟨b, o', none⟩)
    (hl : news.length = n * i.size) (h1 : ∀ v ∈ news, v.oneCell' = true) (hb : w.heap[b]? = some (.cells arr ety (0, 0))) (hroom : o' + sLen * i.size + news.length ≤ arr.size) :
    (Builtin.append_ #[t, u] ty #[.slice (some a) sLen sCap, c]).run P w = .ok (.slice (some a) (sLen + n) sCap) (World.setBlk w b (.cells (arrSet arr (o' + sLen * i.size) news) ety (0, 0))) := by
  unfold Builtin.append_
  simp only [List.getElem?_toArray, List.getElem?_cons_zero, List.getElem?_cons_succ, Sem.run_bind, run_underlying' ht, run_underlying' hu, Result.andThen_ok, run_sizeOf' hi, Sem.run_pure, hn, Bool.not_false, if_true, Bool.false_eq_true, if_false]
  rw [if_pos hg]
  simp only [Sem.run_bind, hfn, Result.andThen_ok]
  by_cases h0 : 0 < sCap
  · rw [ha h0]
    simp only [add_mk]
    rw [run_storeCells news w (o' + sLen * i.size) 0 arr hb h1 (by simpa using hroom)]
    simp
  · have hn0 : n = 0 := by omega
    subst hn0
    have : news = [] := by simpa using hl
    subst this
    have hid : World.setBlk w b (.cells (arrSet arr (o' + sLen * i.size) []) ety (0, 0)) = w := by
      have h1 := (Array.getElem?_eq_some_iff.1 hb).1
      have h2 := (Array.getElem?_eq_some_iff.1 hb).2
      unfold World.setBlk arrSet
      congr 1
      apply Array.ext_getElem?
      intro k
      by_cases hk : b = k
      · subst hk; simp [h1, h2]
      · simp [Array.getElem?_setIfInBounds_ne hk]
    rw [hid]
    simp [storeCells]

theorem run_append_zero {w : World} {t u ty el el' : TypeId} {i : TypeInfo} {c : Value} {aa : Option Addr} (ht : P.underlying t = some (.slice el)) (hu : P.underlying u = some (.slice el')) (hi : P.info? el = some i) (hn : Builtin.lenOf c = pure 0)
    (hfn : (Builtin.firstCells i.size 0 c).run P w = .ok #[] w) : (Builtin.append_ #[t, u] ty #[.slice aa 0 0, c]).run P w = .ok (.slice aa 0 0) w := by
  unfold Builtin.append_
  simp only [List.getElem?_toArray, List.getElem?_cons_zero, List.getElem?_cons_succ, Sem.run_bind, run_underlying' ht, run_underlying' hu, Result.andThen_ok, run_sizeOf' hi, Sem.run_pure, hn, Bool.not_false, if_true, Bool.false_eq_true, if_false]
  rw [if_pos (by omega)]
  cases aa <;> simp [hfn, storeCells]

theorem free_rows {e : Env} {W : World} {b o' sz : Nat} {rows : List (List AV)} {L : List Nat} (h : RRows e W b o' sz rows L) : ∃ vs, FlatV e sz rows vs L ∧ vs.length = rows.length * sz ∧ ∀ j, j < vs.length → W.cell? ⟨b, o' + j, none⟩ = vs[j]? := by
  obtain ⟨vs, h1, h2⟩ := rows_FlatV h
  exact ⟨vs, h1, FlatV_length h1, h2⟩

theorem FlatV_ok {e : Env} {sz : Nat} : ∀ {rows : List (List AV)} {vs : List Value} {L : List Nat}, FlatV e sz rows vs L → ∀ v ∈ vs, v.oneCell' = true
  | [], _, _, h => by simp only [FlatV] at h; simp [h.1]
  | r :: rs, _, _, h => by
    simp only [FlatV] at h
    obtain ⟨v1, v2, L1, L2, rfl, h1, h2, h3, rfl⟩ := h
    intro v hv
    rcases List.mem_append.1 hv with hv | hv
    · exact cells_one h1.2 h2 v hv
    · exact FlatV_ok h3 v hv

theorem RV_ns_at {e : Env} {nm len : Nat} {q : Place} {a : Addr} {c : Nat} (hq : e.φ nm = .at q) (hc : c = q.cap) (hl : len ≤ q.cap) (ha : 0 < q.cap → a = ⟨q.block, q.off, none⟩) : RV e (.ns nm 0 len) (.slice (some a) len c) [] := by
  subst hc
  simp only [RV, hq, true_and]
  exact ⟨by omega, a, by simp, fun h => by rw [ha h]; simp⟩

theorem tri_app {sz bytes : Nat} {s x : Arg} (hc : chkOp P num (.app sz bytes s x) o.op = true) (hp : plan ρ h nx (.app sz bytes s x) = some (p, v, fp, nx')) (hpp : p) (hnx : ∀ nm row, look h nm = some row → nm ≠ nx) : Tri P num o ρ v fp := by
  simp only [chkOp] at hc
  split at hc
  · rename_i args tys hop
    split at hc
    · rename_i y u t ut ha ht1 ht2
      simp only [Bool.and_eq_true] at hc
      obtain ⟨⟨⟨c1, c2⟩, c3⟩, c4⟩ := hc
      obtain ⟨el', hel'⟩ := Option.isSome_iff_exists.1 c3
      cases hel : elemOf? P t with
      | none => simp [hel] at c4
      | some el =>
        simp only [hel, Bool.and_eq_true] at c4
        obtain ⟨⟨c5, c6⟩, c7⟩ := c4
        obtain ⟨i, hi, his⟩ := sizeIs_some c5
        obtain ⟨i', hi', hib⟩ := bytesIs_some c6
        rw [hi] at hi'
        simp only [Option.some.injEq] at hi'
        subst hi'
        simp only [hi] at c7
        cases hz : i.zero with
        | none => simp [hz] at c7
        | some z =>
          simp only [hz, beq_iff_eq] at c7
          have hut := elemOf_some hel
          have huu := elemOf_some hel'
          have hargs : args = #[y, u] := Array.toList_inj.1 ha
          subst hargs
          have hexec : ∀ (a : Act) (w w' : World) (v : Value), (Builtin.append_ tys o.type #[a.eval y, a.eval u]).run P w = .ok v w' → (execOp a.eval o).run P w = .ok (.value v) w' := by
            intro a w w' v hr
            simp [execOp, hop, resolve, invoke, builtin, hr]
          have happ : ∀ (ty : TypeId) (s c : Value) (w : World), (Builtin.append_ tys ty #[s, c]).run P w = (Builtin.append_ #[t, ut] ty #[s, c]).run P w := by
            intro ty s c w
            unfold Builtin.append_
            simp only [ht1, ht2, List.getElem?_toArray, List.getElem?_cons_zero, List.getElem?_cons_succ]
          simp only [plan] at hp
          cases hsrc : srcA h sz (x.ev ρ) with
          | none => simp [hsrc] at hp
          | some r =>
            obtain ⟨cond, xs, rd⟩ := r
            simp only [hsrc, Option.bind_some] at hp
            -- a new row, whatever was there before
            have newrow : ∀ (e : Env) (L0 : List Nat) (H : Nat → Option Row) (Lf : Nat → List Nat) (A : Nat → Prop) (a : Act) (K : Act → World → Prop) (Q : Exit → Act → World → Prop) (dl : FP) (old : List (List AV)) (olds : List Value) (Lo : List Nat) (sb : Option Addr) (sLen sCap : Nat),
                e.num = num → Ok e L0 H Lf → (∀ x ∈ rd ++ dl, H x.1 = x.2.1) → H nx = none → ¬ A nx → (∀ x ∈ dl, x.2.2 = none) → (∀ x ∈ rd, x.1 ∉ dl.map (·.1)) → nx ∉ rd.map (·.1) → nx ∉ dl.map (·.1) → (∀ t, bnd A (ρ t)) → (∀ nm row, H nm = some row → bndr A row.2) →
                (∀ t, RV e (ρ t) (a.tmps.getD t undef) []) → cond → 0 < sz → bytes * (old.length + xs.length) ≤ 2 ^ 47 → old.length + xs.length ≤ 2 ^ 47 → a.eval y = .slice sb sLen sCap → sLen = old.length → sCap < sLen + xs.length → bndr A old → FlatV e sz old olds Lo → Lo.Nodup →
                (∀ b ∈ Lo, b < e.w.heap.size ∧ ∃ n ∈ dl.map (·.1), H n ≠ none ∧ b ∈ Lf n) → (∀ b ∈ Lo, ∀ m ∈ dl.map (·.1), b ∈ Lf m → True) →
                (∀ w' : World, w'.heap = e.w.heap → (Builtin.firstCells i.size sLen (.slice sb sLen sCap)).run P w' = .ok olds.toArray w') →
                (∀ e' Lf' v', Turns e H Lf (fun n => n ∈ (rd ++ dl ++ [(nx, none, some (sz, old ++ xs))] : FP).map (·.1)) e' (upH H (rd ++ dl ++ [(nx, none, some (sz, old ++ xs))])) Lf' → RV e' (.ns nx 0 (old.length + xs.length)) v' [] → K (a.put o.dst v') e'.w) →
                o.wp P a e.w K Q := by
              intro e L0 H Lf A a K Q dl old olds Lo sb sLen sCap hn hk hpre hnone hnA hdl hapart hn1 hn2 hbt hbh ht hcond hsz hb47 h47 hy hsl hlt hbo hfo hnd hLo _ hrf k
              subst hn
              have g2 := RV_arg (ρ := ρ) ht c2
              obtain ⟨s1, s2, vals, s3, s4⟩ := src_run hk hsrc hcond (fun x hx => hpre x (by simp [hx])) g2
              subst hsl
              rw [← his] at s3 s4
              obtain ⟨cap, k1, k2⟩ := run_append_new (ty := o.type) (w := e.w) hut huu hi hz s2 hrf (fun w' hw => s4 w' (.of_heap hw)) hlt h47 (by rw [hib]; exact hb47)
              rw [his] at s3
              have hlo := FlatV_length hfo
              have hln := FlatV_length s3
              refine wp_value (hexec a e.w _ _ (by rw [hy, happ, k2])) ?_
              have hsize : (e.w.drew.alloc (.cells (olds.toArray ++ vals.toArray ++ Builtin.zeroCells z.cells (cap - (old.length + xs.length))) el)).heap.size = e.w.heap.size + 1 := by simp
              have hblk := alloc_new (w := e.w) (w1 := e.w.drew) (ob := .cells (olds.toArray ++ vals.toArray ++ Builtin.zeroCells z.cells (cap - (old.length + xs.length))) el) rfl
              have hLold : ∀ b ∈ Lo, b < e.w.heap.size := fun b hb => (hLo b hb).1
              obtain ⟨e', Lf', hw', hφ', hA', hT⟩ := Turns.move (dl := dl) (row' := (sz, old ++ xs)) (s' := .at ⟨e.w.heap.size, 0, cap, sz⟩) (L' := e.w.heap.size :: Lo) (w' := e.w.drew.alloc (.cells (olds.toArray ++ vals.toArray ++ Builtin.zeroCells z.cells (cap - (old.length + xs.length))) el))
                hk hbh s1 hpre hdl hapart hnone hnA ⟨hn1, hn2⟩ (by omega) ⟨rfl, rfl, rfl⟩ (fun c hc _ => alloc_get rfl hc) (by
                  intro e' hw' hφ' hkp
                  have hkeep : Keeps e e' A Lo := { hkp with own := fun b hb => by rw [hw']; exact alloc_get rfl (hLold b hb) }
                  refine ⟨rfl, ⟨hsz, by simp; omega, _, el, by rw [hw']; exact hblk, ?_⟩, Lo, ?_, rfl⟩
                  · simp only [Nat.zero_add, Array.size_append, List.size_toArray, hlo, hln, Builtin.zeroCells, Array.size_map, Array.size_range, c7]
                    have h1 : cap * sz = old.length * sz + xs.length * sz + (cap - (old.length + xs.length)) * sz := by
                      rw [← Nat.add_mul, ← Nat.add_mul]
                      congr 1
                      omega
                    omega
                  · have hfl : FlatV e' sz (old ++ xs) (olds ++ vals) (Lo ++ []) := FlatV_append (FlatV_keep hkeep hbo hfo) (FlatV_keep (hkeep.sub (by simp)) (mem_free hsrc (arg_bnd hbt c2) hbh (fun x hx => hpre x (by simp [hx]))) s3)
                    rw [List.append_nil] at hfl
                    refine FlatV_rows hfl (fun j hj => ?_)
                    rw [hw', cell_blk hblk, Nat.zero_add]
                    rw [Array.getElem?_append_left (by simp at hj ⊢; exact hj)]
                    simp)
                (List.nodup_cons.2 ⟨fun hm => by have := hLold _ hm; omega, hnd⟩) (by
                  intro b hb
                  rcases List.mem_cons.1 hb with rfl | hb
                  · exact ⟨by omega, .inl (Nat.le_refl _)⟩
                  · exact ⟨by have := hLold b hb; omega, .inr (hLo b hb).2⟩)
              have := k e' Lf' (.slice (some ⟨e.w.heap.size, 0, none⟩) (old.length + xs.length) cap) hT (RV_ns0 hφ' rfl (by simpa using k1))
              rw [hw'] at this
              exact this
            split at hp
            · rename_i hs
              simp only [Option.some.injEq, Prod.mk.injEq] at hp
              obtain ⟨rfl, rfl, rfl, _⟩ := hp
              obtain ⟨p1, p2, p3, p4⟩ := hpp
              intro e L0 H Lf A a K Q hn hk hpre hbt hbh hfr ht k
              have hnone : H nx = none := hpre (nx, none, some (sz, xs)) (by simp)
              have hnA : ¬ A nx := hfr (nx, none, some (sz, xs)) (by simp) rfl
              have g1 := RV_arg (e := e) (ρ := ρ) (a := a) (x := y) (y := s) ht (by rw [hn]; exact c1)
              rw [hs] at g1
              simp only [RV] at g1
              have g2 := RV_arg (e := e) (ρ := ρ) (a := a) (x := u) (y := x) ht (by rw [hn]; exact c2)
              have hn1 : nx ∉ rd.map (·.1) := by
                intro hm
                obtain ⟨r, hr, hrn⟩ := List.mem_map.1 hm
                exact src_pre hsrc hr (by rw [← hpre r (by simp [hr]), hrn, hnone])
              by_cases hx0 : xs.length = 0
              · have hxs : xs = [] := List.length_eq_zero_iff.1 hx0
                subst hxs
                obtain ⟨s1, s2, vals, s3, s4⟩ := src_run hk hsrc p1 (fun x hx => hpre x (by simp [hx])) g2
                simp only [FlatV] at s3
                obtain ⟨rfl, _⟩ := s3
                have hrun := run_append_zero (aa := none) (ty := o.type) (w := e.w) hut huu hi s2 (by have := s4 e.w (Same.refl _ _); rw [← his] at this; simpa using this)
                refine wp_value (hexec a e.w _ _ (by rw [g1.1, happ, hrun])) ?_
                obtain ⟨e', Lf', hw', hφ', hA', hT⟩ := Turns.move (dl := []) (row' := (sz, ([] : List (List AV)))) (s' := .nilp) (L' := []) (w' := e.w) hk hbh s1 (fun x hx => hpre x (by simpa using .inl (by simpa using hx))) (by simp) (by simp) hnone hnA ⟨hn1, by simp⟩ (Nat.le_refl _) (SameIo.refl _) (fun _ _ _ => rfl)
                  (fun e' _ _ _ => ⟨rfl, rfl⟩) (by simp) (by simp)
                have := k e' Lf' (.slice none 0 0) (by simpa using hT) (by simp [RV, hφ'])
                rw [hw'] at this
                exact this
              · refine newrow e L0 H Lf A a K Q [] [] [] [] none 0 0 hn hk (fun x hx => hpre x (by simpa using .inl (by simpa using hx))) hnone hnA (by simp) (by simp) hn1 (by simp) hbt hbh ht p1 p2 (by simpa using p3) (by simpa using p4) g1.1 rfl (by omega) trivial ⟨rfl, rfl⟩ (by simp) (by simp) (by simp) (fun w' _ => by simp [Builtin.firstCells]) ?_
                intro e' Lf' v' hT hv
                exact k e' Lf' v' (by simpa using hT) (by simpa using hv)
            · rename_i nm off len hs
              cases hl : look h nm with
              | none => simp [hl] at hp
              | some row =>
                simp only [hl, Option.map_some, Option.some.injEq, Prod.mk.injEq] at hp
                obtain ⟨rfl, rfl, rfl, _⟩ := hp
                obtain ⟨p1, p2, p3, p4, p5, p6, p7⟩ := hpp
                have hlen : (row.2.drop off).length = len := by simp; omega
                intro e L0 H Lf A a K Q hn hk hpre hbt hbh hfr ht k
                have hpre' : ∀ x ∈ rd ++ [(nm, some row, none)], H x.1 = x.2.1 := fun x hx => hpre x (by
                  simp only [List.mem_append, List.mem_singleton, List.mem_cons, List.not_mem_nil, or_false] at hx ⊢
                  rcases hx with hx | hx
                  · exact .inl hx
                  · exact .inr (.inl hx))
                have hnone : H nx = none := hpre (nx, none, some (sz, row.2.drop off ++ xs)) (by simp)
                have hnA : ¬ A nx := hfr (nx, none, some (sz, row.2.drop off ++ xs)) (by simp) rfl
                have hrow : H nm = some row := hpre' (nm, some row, none) (by simp)
                have hnm : nx ≠ nm := fun he => by rw [he, hrow] at hnone; simp at hnone
                have hr := hk.rh.row nm row hrow
                have hrb := hbh nm row hrow
                have g1 := RV_arg (e := e) (ρ := ρ) (a := a) (x := y) (y := s) ht (by rw [hn]; exact c1)
                rw [hs] at g1
                have g2 := RV_arg (e := e) (ρ := ρ) (a := a) (x := u) (y := x) ht (by rw [hn]; exact c2)
                obtain ⟨s1, s2, vals, s3, s4⟩ := src_run hk hsrc p1 (fun x hx => hpre' x (by simp [hx])) g2
                have hn1 : nx ∉ rd.map (·.1) := by
                  intro hm
                  obtain ⟨r, hr, hrn⟩ := List.mem_map.1 hm
                  exact src_pre hsrc hr (by rw [← hpre' r (by simp [hr]), hrn, hnone])
                have hn2 : nx ∉ ([(nm, some row, none)] : FP).map (·.1) := by simpa using hnm
                have hapart : ∀ x ∈ rd, x.1 ∉ ([(nm, some row, none)] : FP).map (·.1) := fun x hx => by simpa using p5 x hx
                have hbo : bndr A (row.2.drop off) := bndr_iff.2 fun r hr => bndr_iff.1 hrb r (List.mem_of_mem_drop hr)
                have kk : ∀ e' Lf' v', Turns e H Lf (fun n => n ∈ (rd ++ [(nm, some row, none)] ++ [(nx, none, some (sz, row.2.drop off ++ xs))] : FP).map (·.1)) e' (upH H (rd ++ [(nm, some row, none)] ++ [(nx, none, some (sz, row.2.drop off ++ xs))])) Lf' → RV e' (.ns nx 0 (len + xs.length)) v' [] → K (a.put o.dst v') e'.w := by
                  intro e' Lf' v' hT hv
                  exact k e' Lf' v' (by simpa [List.append_assoc] using hT) hv
                rcases ns_at hr g1 with ⟨hq, q1, rfl, rfl, aa, g3⟩ | ⟨q, A0, Lr, hq, q1, q2, q3, q4, q5, q6, q7⟩
                · -- nothing was there
                  have hd0 : row.2.drop 0 = [] := by rw [q1]; rfl
                  by_cases hx0 : xs.length = 0
                  · have hxs : xs = [] := List.length_eq_zero_iff.1 hx0
                    subst hxs
                    simp only [FlatV] at s3
                    obtain ⟨rfl, _⟩ := s3
                    have hrun := run_append_zero (aa := aa) (ty := o.type) (w := e.w) hut huu hi s2 (by have := s4 e.w (Same.refl _ _); rw [← his] at this; simpa using this)
                    refine wp_value (hexec a e.w _ _ (by rw [g3, happ, hrun])) ?_
                    obtain ⟨e', Lf', hw', hφ', hA', hT⟩ := Turns.move (dl := [(nm, some row, none)]) (row' := (sz, row.2.drop 0 ++ [])) (s' := .nilp) (L' := []) (w' := e.w) hk hbh s1 hpre' (by simp) hapart hnone hnA ⟨hn1, hn2⟩ (Nat.le_refl _) (SameIo.refl _) (fun _ _ _ => rfl)
                      (fun e' _ _ _ => ⟨by simp [q1], rfl⟩) (by simp) (by simp)
                    have := kk e' Lf' (.slice aa 0 0) hT (by simp [RV, hφ'])
                    rw [hw'] at this
                    exact this
                  · refine newrow e L0 H Lf A a K Q [(nm, some row, none)] (row.2.drop 0) [] [] aa 0 0 hn hk hpre' hnone hnA (by simp) hapart hn1 hn2 hbt hbh ht p1 p2 (by rw [hlen]; exact p6) (by rw [hlen]; exact p7) g3 hlen.symm (by omega) hbo (by rw [hd0]; exact ⟨rfl, rfl⟩) (by simp) (by simp) (by simp) (fun w' _ => by cases aa <;> simp [Builtin.firstCells, loadCells, loadCellsFrom]) ?_
                    intro e' Lf' v' hT hv
                    exact kk e' Lf' v' hT (by rw [hlen] at hv; exact hv)
                · have hoff : off ≤ row.2.length := by omega
                  have h0 : row.2 = row.2.take off ++ row.2.drop off := by simp
                  have q3' := q3
                  rw [h0] at q3'
                  obtain ⟨M1, M2, m1, m2, m3⟩ := (RRows_append _ _).1 q3'
                  rw [List.length_take, Nat.min_eq_left hoff] at m2
                  obtain ⟨olds, o1, o2, o3⟩ := free_rows m2
                  rw [hlen] at o2
                  have hnd := hk.rh.nodup nm (by simp [hrow])
                  rw [q4, m3] at hnd
                  have hblkL := hk.rh.blk nm (by simp [hrow])
                  have hqsz : q.sz = sz := q1.trans p3
                  rw [hqsz] at o1 o2
                  obtain ⟨sz0, q8, arr, ety, q9, q10⟩ := q2
                  by_cases hroom : len + xs.length ≤ q.cap - off
                  · -- in place
                    have hln := FlatV_length s3
                    have hm : (off + (len + xs.length)) * q.sz ≤ q.cap * q.sz ∨ q.cap - off = 0 ∧ len + xs.length = 0 := by
                      by_cases h : off ≤ q.cap
                      · exact .inl (Nat.mul_le_mul_right _ (by omega))
                      · exact .inr ⟨by omega, by omega⟩
                    have hcapoff : off ≤ q.cap := by omega
                    have hm' : (off + (len + xs.length)) * q.sz ≤ q.cap * q.sz := Nat.mul_le_mul_right _ (by omega)
                    have hm2 : (off + (len + xs.length)) * q.sz = off * q.sz + len * q.sz + xs.length * q.sz := by rw [Nat.add_mul, Nat.add_mul]; omega
                    have hm3 : q.off + off * q.sz + len * q.sz + vals.length ≤ arr.size := by rw [hln, ← hqsz]; omega
                    have hrun := run_append_room' (ty := o.type) (w := e.w) (a := A0) (sLen := len) (sCap := q.cap - off) (b := q.block) (o' := q.off + off * q.sz) hut huu hi s2 (by have := s4 e.w (Same.refl _ _); rw [← his] at this; exact this) hroom (fun h => q7 (by omega))
                      (by rw [hln, his]) (FlatV_ok s3) q9 (by rw [his, ← hqsz]; exact hm3)
                    rw [his, ← hqsz] at hrun
                    refine wp_value (hexec a e.w _ _ (by rw [q6, happ, hrun])) ?_
                    have hbl : q.block < e.w.heap.size := (Array.getElem?_eq_some_iff.1 q9).1
                    have hblk := setBlk_at e.w q.block (.cells (arrSet arr (q.off + off * q.sz + len * q.sz) vals) ety (0, 0)) hbl
                    have hnb : ∀ b ∈ M2, b ≠ q.block := fun b hb he => (List.nodup_cons.1 hnd).1 (by rw [← he]; simp [hb])
                    obtain ⟨e', Lf', hw', hφ', hA', hT⟩ := Turns.move (dl := [(nm, some row, none)]) (row' := (sz, row.2.drop off ++ xs)) (s' := .at ⟨q.block, q.off + off * q.sz, q.cap - off, q.sz⟩) (L' := q.block :: M2)
                      (w' := World.setBlk e.w q.block (.cells (arrSet arr (q.off + off * q.sz + len * q.sz) vals) ety (0, 0))) hk hbh s1 hpre' (by simp) hapart hnone hnA ⟨hn1, hn2⟩ (by rw [setBlk_size]; exact Nat.le_refl _) ⟨rfl, rfl, rfl⟩
                      (fun c _ hcn => setBlk_other _ _ _ _ (fun he => hcn nm (by simp) (by simp [hrow]) (by rw [q4, ← he]; simp))) (by
                        intro e' hw' hφ' hkp
                        have hkeep : Keeps e e' A M2 := { hkp with own := fun b hb => by rw [hw']; exact setBlk_other _ _ _ _ (fun he => hnb b hb he.symm) }
                        refine ⟨hqsz, ⟨sz0, by simp; omega, _, ety, by rw [hw']; exact hblk, ?_⟩, M2, ?_, rfl⟩
                        · rw [arrSet_size]
                          have : off * q.sz + (q.cap - off) * q.sz = q.cap * q.sz := by rw [← Nat.add_mul]; congr 1; omega
                          simp only
                          omega
                        · have hfl : FlatV e' sz (row.2.drop off ++ xs) (olds ++ vals) (M2 ++ []) := FlatV_append (FlatV_keep hkeep hbo o1) (FlatV_keep (hkeep.sub (by simp)) (mem_free hsrc (arg_bnd hbt c2) hbh (fun x hx => hpre' x (by simp [hx]))) s3)
                          rw [List.append_nil] at hfl
                          simp only [hqsz]
                          refine FlatV_rows hfl (fun j hj => ?_)
                          rw [hw', cell_blk hblk]
                          have hos : olds.length = len * q.sz := by rw [o2, hqsz]
                          by_cases hjo : j < olds.length
                          · rw [arrSet_other _ _ _ _ (.inl (by rw [← hqsz]; omega)), List.getElem?_append_left hjo]
                            have := o3 j hjo
                            rw [cell_blk q9] at this
                            rw [← this, hqsz]
                          · rw [List.getElem?_append_right (by omega), hos]
                            simp only [List.length_append] at hj
                            have := arrSet_at arr (q.off + off * q.sz + len * q.sz) vals (j - len * q.sz) (by omega) hm3
                            rw [← this, ← hqsz]
                            congr 1
                            omega)
                      (List.nodup_cons.2 ⟨fun hm => hnb _ hm rfl, (hnd.sublist ((List.sublist_append_right M1 M2).trans (List.sublist_cons_self _ _)))⟩) (by
                        intro b hb
                        have hb' : b ∈ Lf nm := by
                          rw [q4, m3]
                          rcases List.mem_cons.1 hb with rfl | hb
                          · simp
                          · simp [hb]
                        refine ⟨by rw [setBlk_size]; exact (hblkL b hb').1, .inr ⟨nm, by simp, by simp [hrow], hb'⟩⟩)
                    have := kk e' Lf' (.slice (some A0) (len + xs.length) (q.cap - off)) hT (RV_ns_at hφ' rfl (by simpa using hroom) (fun h => q7 (by simp at h; omega)))
                    rw [hw'] at this
                    exact this
                  · -- a new block
                    have hrf : ∀ w' : World, w'.heap = e.w.heap → (Builtin.firstCells i.size len (.slice (some A0) len (q.cap - off))).run P w' = .ok olds.toArray w' := by
                      intro w' hw
                      simp only [Builtin.firstCells]
                      by_cases hz0 : len = 0
                      · subst hz0
                        have : olds = [] := List.length_eq_zero_iff.1 (by omega)
                        subst this
                        simp [loadCells, loadCellsFrom]
                      · rw [q7 (by omega)]
                        refine run_loadCells (by rw [his]; exact o2) (fun j hj => ?_)
                        rw [cell_of_heap (w := e.w) (by rw [hw])]
                        exact o3 j (by rw [his] at hj; omega)
                    refine newrow e L0 H Lf A a K Q [(nm, some row, none)] (row.2.drop off) olds M2 (some A0) len (q.cap - off) hn hk hpre' hnone hnA (by simp) hapart hn1 hn2 hbt hbh ht p1 p2 (by rw [hlen]; exact p6) (by rw [hlen]; exact p7) q6 hlen.symm (by omega) hbo o1
                      (hnd.sublist ((List.sublist_append_right M1 M2).trans (List.sublist_cons_self _ _))) ?_ (by simp) hrf ?_
                    · intro b hb
                      have hb' : b ∈ Lf nm := by rw [q4, m3]; simp [hb]
                      exact ⟨(hblkL b hb').1, nm, by simp, by simp [hrow], hb'⟩
                    · intro e' Lf' v' hT hv
                      exact kk e' Lf' v' hT (by rw [hlen] at hv; exact hv)
            · simp at hp
    · simp at hc
  · simp at hc

end
end Go.Sep
