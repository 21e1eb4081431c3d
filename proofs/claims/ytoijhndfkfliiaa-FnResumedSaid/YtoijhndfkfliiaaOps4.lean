/- Operations that turn no row: comparison of structs, cuts of slices, places of elements, texts of bytes. -/
import Derived.Test.YtoijhndfkfliiaaOps3
namespace Go.Sep
set_option linter.unusedVariables false
set_option linter.unusedSimpArgs false

section
variable {P : Program} {num : Nat → Nat} {o : Oper} {ρ : Nat → AV} {h : Heap} {nx nx' : Nat} {p : Prop} {v : AV} {fp : FP}

theorem isInt_some {t : TypeId} (h : isInt P t = true) : ∃ k, P.underlying t = some (.int k) := by
  unfold isInt at h
  split at h
  · exact ⟨_, by assumption⟩
  · simp at h

theorem run_part_one {w : World} {t : TypeId} {cs : Array Value} {off : Nat} {c : Value} (hag : aggB P t = some false) (hc : cs[off]? = some c) : (part t cs off).run P w = .ok c w := by
  unfold part
  simp [run_isAgg hag, hc]

theorem run_eqFields {w : World} {d : Nat} {e : Env} : ∀ (ks : List Bool) (xs ys : List AV) (r : Bool) (fs : List Field) (i : Nat) (vs us : List Value) (pre pre' : List Value), eqC ks xs ys = some r → flatFields P i ks fs = true →
    RVs e xs vs [] → RVs e ys us [] → pre.length = i → pre'.length = i → (Op.eqFields (d + 1) (pre ++ vs).toArray (pre' ++ us).toArray fs).run P w = .ok r w
  | [], xs, ys, r, fs, i, vs, us, pre, pre', he, hf, h1, h2, hp, hp' => by
    cases fs with
    | cons => simp [flatFields] at hf
    | nil =>
      cases xs with
      | cons x xs => simp [eqC] at he
      | nil =>
        cases ys with
        | cons => simp [eqC] at he
        | nil =>
          simp [eqC] at he
          subst he
          simp [Op.eqFields]
  | k :: ks, xs, ys, r, fs, i, vs, us, pre, pre', he, hf, h1, h2, hp, hp' => by
    cases fs with
    | nil => simp [flatFields] at hf
    | cons f fs =>
      cases xs with
      | nil => cases k <;> simp [eqC] at he
      | cons x xs =>
        cases ys with
        | nil => cases k <;> cases x <;> simp [eqC] at he
        | cons y ys =>
          simp only [flatFields, Bool.and_eq_true, bne_iff_ne, ne_eq, beq_iff_eq] at hf
          obtain ⟨⟨⟨hn, ho⟩, ht⟩, hf⟩ := hf
          simp only [RVs] at h1 h2
          obtain ⟨v, vs', L1, L2, rfl, g1, g2, g3⟩ := h1
          obtain ⟨u, us', L3, L4, rfl, g4, g5, g6⟩ := h2
          obtain ⟨rfl, rfl⟩ := nil_of_append g3
          obtain ⟨rfl, rfl⟩ := nil_of_append g6
          have c1 : (pre ++ v :: vs').toArray[f.offset]? = some v := by simp [ho, ← hp]
          have c2 : (pre' ++ u :: us').toArray[f.offset]? = some u := by simp [ho, ← hp']
          have key : aggB P f.type = some false ∧ ∃ q r', r = (q && r') ∧ eqC ks xs ys = some r' ∧ (Op.equalIn (d + 1) f.type v u).run P w = .ok q w := by
            cases k with
            | true =>
              obtain ⟨k', hk⟩ := isInt_some ht
              refine ⟨by simp [aggB, hk], ?_⟩
              cases x with
              | int k1 a =>
                cases y with
                | int k2 b =>
                  simp only [eqC] at he
                  split at he
                  · rename_i hkk
                    subst hkk
                    cases hr : eqC ks xs ys with
                    | none => simp [hr] at he
                    | some r' =>
                      simp [hr] at he
                      refine ⟨decide (a = b), r', he.symm, rfl, ?_⟩
                      rw [RV_int g1, RV_int g4, run_equalIn_int w d f.type k1 k' a b hk]
                      rfl
                  · simp at he
                | _ => simp [eqC] at he
              | _ => cases y <;> simp [eqC] at he
            | false =>
              refine ⟨by simp [aggB, isBool_some ht], ?_⟩
              cases x with
              | bool a =>
                cases y with
                | bool b =>
                  simp only [eqC] at he
                  cases hr : eqC ks xs ys with
                  | none => simp [hr] at he
                  | some r' =>
                    simp [hr] at he
                    refine ⟨a == b, r', he.symm, rfl, ?_⟩
                    rw [RV_bool g1, RV_bool g4, run_equalIn_bool' w d f.type a b (isBool_some ht)]
                | _ => simp [eqC] at he
              | _ => cases y <;> simp [eqC] at he
          obtain ⟨hag, q, r', rfl, hr', hq⟩ := key
          simp only [Op.eqFields]
          rw [if_pos hn]
          simp only [Sem.run_bind, run_part_one hag c1, run_part_one hag c2, Result.andThen_ok, hq]
          cases q with
          | false => simp
          | true =>
            simp only [Bool.not_true, Bool.false_eq_true, if_false, Bool.true_and]
            have := run_eqFields (w := w) (d := d) ks xs ys r' fs (i + 1) vs' us' (pre ++ [v]) (pre' ++ [u]) hr' hf g2 g5 (by simp [hp]) (by simp [hp'])
            simpa using this

theorem tri_eqS {neg : Bool} {ks : List Bool} {x z : Arg} (hc : chkOp P num (.eqS neg ks x z) o.op = true) (hp : plan ρ h nx (.eqS neg ks x z) = some (p, v, fp, nx')) : TriR P num o ρ v fp := by
  simp only [chkOp] at hc
  split at hc
  · rename_i b t y u _ hop
    simp only [Bool.and_eq_true] at hc
    obtain ⟨⟨⟨h0, h1⟩, h2⟩, h3⟩ := hc
    cases hfs : fieldsOf P t with
    | none => simp [hfs] at h3
    | some fs =>
      simp only [hfs, Bool.and_eq_true, Bool.not_eq_true'] at h3
      obtain ⟨⟨h4, h5⟩, h6⟩ := h3
      simp only [plan] at hp
      split at hp
      · rename_i xs ys hx hz
        cases hr : eqC ks xs ys with
        | none => simp [hr] at hp
        | some r =>
          simp only [hr, Option.map_some, Option.some.injEq, Prod.mk.injEq] at hp
          obtain ⟨rfl, rfl, rfl, _⟩ := hp
          refine tri_pure (m := .mv x) ?_
          intro e a hn ht
          subst hn
          have g1 := RV_arg (ρ := ρ) ht h1
          rw [hx] at g1
          have g2 := RV_arg (ρ := ρ) ht h2
          rw [hz] at g2
          simp only [RV] at g1 g2
          obtain ⟨vs, g1, g3⟩ := g1
          obtain ⟨us, g2, g4⟩ := g2
          have hu := fieldsOf_some hfs
          have hpf : P.fieldsOf t = fs := by simp [Program.fieldsOf, hu]
          have key : ∀ w, (Op.equalIn 10000 t (.agg vs.toArray) (.agg us.toArray)).run P w = .ok r w := by
            intro w
            rw [run_equalIn_agg w 9999 t vs.toArray us.toArray (by rw [hpf]; exact hu) h5, hpf]
            simpa using run_eqFields (w := w) (d := 9998) (e := e) ks xs ys r fs.toList 0 vs us [] [] hr h4 g3 g4 rfl rfl
          refine ⟨.bool (if neg then !r else r), ?_, by simp [RV]⟩
          intro w
          cases neg
          · simp at h0
            subst h0
            simp only [execOp, hop, g1, g2, Sem.run_bind, run_eqGuard_agg w .eql t y u vs.toArray us.toArray h6, Result.andThen_ok, run_eql_struct, key]
            rfl
          · simp at h0
            subst h0
            simp only [execOp, hop, g1, g2, Sem.run_bind, run_eqGuard_agg w .neq t y u vs.toArray us.toArray h6, Result.andThen_ok, run_neq_struct, key]
            rfl
      · simp at hp
  · simp at hc

/-- A named row that is there, and a slice of it. -/
theorem ns_at {e : Env} {nm off len : Nat} {row : Row} {L L' : List Nat} {c : Value} (hr : RowAt e nm row L) (h : RV e (.ns nm off len) c L') :
    (e.φ nm = .nilp ∧ row.2 = [] ∧ off = 0 ∧ len = 0 ∧ ∃ a, c = .slice a 0 0) ∨
    ∃ q a Lr, e.φ nm = .at q ∧ q.sz = row.1 ∧ OwnBlk e.w q row.2.length ∧ RRows e e.w q.block q.off q.sz row.2 Lr ∧ L = q.block :: Lr ∧ off + len ≤ q.cap ∧
      c = .slice (some a) len (q.cap - off) ∧ (off < q.cap → a = ⟨q.block, q.off + off * q.sz, none⟩) := by
  simp only [RV] at h
  obtain ⟨_, h⟩ := h
  unfold RowAt RowSp at hr
  cases hq : e.φ nm with
  | dead => rw [hq] at hr; exact hr.elim
  | nilp => rw [hq] at hr h; exact .inl ⟨rfl, hr.1, h⟩
  | «at» q =>
    rw [hq] at hr h
    obtain ⟨h1, h2, Lr, h3, h4⟩ := hr
    obtain ⟨h5, a, h6, h7⟩ := h
    exact .inr ⟨q, a, Lr, rfl, h1, h2, h3, h4, h5, h6, h7⟩

theorem tri_iad {sz : Nat} {x z : Arg} (hc : chkOp P num (.iad sz x z) o.op = true) (hp : plan ρ h nx (.iad sz x z) = some (p, v, fp, nx')) (hpp : p) : TriR P num o ρ v fp := by
  simp only [chkOp] at hc
  split at hc
  · rename_i t y u hop
    simp only [Bool.and_eq_true] at hc
    obtain ⟨⟨h1, h2⟩, h3⟩ := hc
    cases hel : elemOf? P t with
    | none => simp [hel] at h3
    | some el =>
      simp only [hel] at h3
      obtain ⟨i, hi, hs⟩ := sizeIs_some h3
      have hu := elemOf_some hel
      have key : ∀ (a : Act) (w : World) (A : Addr) (l c : Nat) (k : IntKind) (j : Int), a.eval y = .slice (some A) l c → a.eval u = .int k j → 0 ≤ j → j < l →
          (execOp a.eval o).run P w = .ok (.value (.pointer (some (A.add (j.toNat * sz))))) w := by
        intro a w A l c k j e1 e2 h4 h5
        simp [execOp, hop, e1, e2, Instr.indexAt, asIntOf, run_underlying' hu, h4, h5, run_sizeOf' hi, hs]
      simp only [plan] at hp
      split at hp
      · rename_i nm off len k j hx hz
        cases hl : look h nm with
        | none => simp [hl] at hp
        | some row =>
          simp only [hl, Option.map_some, Option.some.injEq, Prod.mk.injEq] at hp
          obtain ⟨rfl, rfl, rfl, _⟩ := hp
          obtain ⟨p1, p2, p3, p4⟩ := hpp
          refine tri_read1 ?_
          intro e L0 H Lf a hn hk hr ht
          subst hn
          have g1 := RV_arg (ρ := ρ) ht h1
          rw [hx] at g1
          have g2 := RV_arg (ρ := ρ) ht h2
          rw [hz] at g2
          rcases ns_at hr g1 with ⟨_, _, _, rfl, _⟩ | ⟨q, A, Lr, hq, q1, q2, q3, q4, q5, q6, q7⟩
          · omega
          · have hA := q7 (by omega)
            refine ⟨_, fun w => key a w A len _ k j q6 (RV_int g2) p3 p4, ?_⟩
            rw [hA, add_mk]
            have : q.off + off * q.sz + j.toNat * sz = q.off + (off + j.toNat) * q.sz + 0 := by
              rw [q1, p1, Nat.add_mul]; omega
            rw [this]
            exact RV_ptr hq
      · rename_i s rows k j hx hz
        simp only [Option.some.injEq, Prod.mk.injEq] at hp
        obtain ⟨rfl, rfl, rfl, _⟩ := hp
        obtain ⟨p1, p3, p4⟩ := hpp
        refine tri_pure (m := .mv x) ?_
        intro e a hn ht
        subst hn
        have g1 := RV_arg (ρ := ρ) ht h1
        rw [hx] at g1
        have g2 := RV_arg (ρ := ρ) ht h2
        rw [hz] at g2
        simp only [RV] at g1
        rcases g1.2 with ⟨rfl, _⟩ | ⟨b, o', c, q1, q2, q3, q4⟩
        · simp at p4; omega
        · obtain ⟨vs, L1, L2, L3, r1, r2, r3, r4, _, _, r5⟩ := RRows_split j.toNat (by omega) q4
          obtain ⟨_, r5⟩ := nil_of_append r5
          obtain ⟨rfl, _⟩ := nil_of_append r5.symm
          refine ⟨_, fun w => key a w _ rows.length c k j q1 (RV_int g2) p3 p4, ?_⟩
          have hg : rows.getD j.toNat [] = rows[j.toNat]'(by omega) := by
            have : j.toNat < rows.length := by omega
            simp [List.getD_eq_getElem?_getD, this]
          rw [hg, add_mk]
          simp only [RV, true_and]
          subst p1
          exact ⟨b, o' + j.toNat * s, vs, rfl, q3, by omega, fun j' hj' => r3 j' (by omega), r4⟩
      · rename_i s rows k j hx hz
        simp only [Option.some.injEq, Prod.mk.injEq] at hp
        obtain ⟨rfl, rfl, rfl, _⟩ := hp
        obtain ⟨p1, p3, p4⟩ := hpp
        refine tri_pure (m := .mv x) ?_
        intro e a hn ht
        subst hn
        have g1 := RV_arg (ρ := ρ) ht h1
        rw [hx] at g1
        have g2 := RV_arg (ρ := ρ) ht h2
        rw [hz] at g2
        simp only [RV] at g1
        rcases g1.2 with ⟨rfl, _⟩ | ⟨b, o', c, q1, q2, q3, q4⟩
        · simp at p4; omega
        · obtain ⟨vs, L1, L2, L3, r1, r2, r3, r4, _, _, r5⟩ := RRows_split j.toNat (by omega) q4
          obtain ⟨_, r5⟩ := nil_of_append r5
          obtain ⟨rfl, _⟩ := nil_of_append r5.symm
          refine ⟨_, fun w => key a w _ rows.length c k j q1 (RV_int g2) p3 p4, ?_⟩
          have hg : rows.getD j.toNat [] = rows[j.toNat]'(by omega) := by
            have : j.toNat < rows.length := by omega
            simp [List.getD_eq_getElem?_getD, this]
          rw [hg, add_mk]
          simp only [RV, true_and]
          subst p1
          exact ⟨b, o' + j.toNat * s, vs, rfl, q3, by omega, fun j' hj' => r3 j' (by omega), r4⟩
      · simp at hp
  · simp at hc

theorem RRows_sub {e : Env} {W : World} {b o' sz : Nat} {rows : List (List AV)} (l n : Nat) (hl : l ≤ rows.length) (h : RRows e W b o' sz rows []) : RRows e W b (o' + l * sz) sz ((rows.drop l).take n) [] := by
  have h1 : rows = rows.take l ++ rows.drop l := by simp
  rw [h1] at h
  obtain ⟨L1, L2, _, h2, h3⟩ := (RRows_append _ _).1 h
  obtain ⟨_, rfl⟩ := nil_of_append h3
  rw [List.length_take, Nat.min_eq_left hl] at h2
  have h4 : rows.drop l = (rows.drop l).take n ++ (rows.drop l).drop n := (List.take_append_drop n _).symm
  rw [h4] at h2
  obtain ⟨L3, L4, h5, _, h6⟩ := (RRows_append _ _).1 h2
  obtain ⟨rfl, _⟩ := nil_of_append h6
  exact h5

theorem tri_cut {sz : Nat} {x : Arg} {lo hi : Option Arg} (hc : chkOp P num (.cut sz x lo hi) o.op = true) (hp : plan ρ h nx (.cut sz x lo hi) = some (p, v, fp, nx')) (hpp : p) : TriR P num o ρ v fp := by
  simp only [chkOp] at hc
  split at hc
  · rename_i t y l' h' hop
    simp only [Bool.and_eq_true] at hc
    obtain ⟨⟨⟨h1, h2⟩, h3⟩, h4⟩ := hc
    cases hel : elemOf? P t with
    | none => simp [hel] at h4
    | some el =>
      simp only [hel] at h4
      obtain ⟨i, hi', hs⟩ := sizeIs_some h4
      have hu := elemOf_some hel
      have key : ∀ (e : Env) (a : Act) (w : World) (A : Option Addr) (len c : Nat) (l m : Int), e.num = num → (∀ t, RV e (ρ t) (a.tmps.getD t undef) []) → a.eval y = .slice A len c → bnd? ρ 0 lo = some l → bnd? ρ len hi = some m → 0 ≤ l → l ≤ m → m ≤ len → len ≤ c →
          (execOp a.eval o).run P w = .ok (.value (.slice (if c = l.toNat then A else A.map (·.add (l.toNat * sz))) (m.toNat - l.toNat) (c - l.toNat))) w := by
        intro e a w A len c l m hn ht e1 e2 e3 b1 b2 b3 b4
        subst hn
        simp only [execOp, hop, e1, Sem.run_bind, Instr.sliceAt, run_underlying' hu, Result.andThen_ok, Instr.slice, Option.map_none]
        rw [run_sliceBounds (isS := true) ht h2 h3 e2 e3 b1 b2 b3 b4]
        simp [run_sizeOf' hi', hs]
      simp only [plan] at hp
      cases hl : bnd? ρ 0 lo with
      | none => simp [hl] at hp
      | some l =>
        simp only [hl, Option.bind_some] at hp
        split at hp
        · rename_i hx
          cases hh : bnd? ρ 0 hi with
          | none => simp [hh] at hp
          | some m =>
            simp only [hh, Option.map_some, Option.some.injEq, Prod.mk.injEq] at hp
            obtain ⟨rfl, rfl, rfl, _⟩ := hp
            obtain ⟨rfl, rfl⟩ := hpp
            refine tri_pure (m := .mv x) ?_
            intro e a hn ht
            subst hn
            have g1 := RV_arg (ρ := ρ) ht h1
            rw [hx] at g1
            simp only [RV] at g1
            exact ⟨_, fun w => key e a w none 0 0 0 0 rfl ht g1.1 hl hh (by omega) (by omega) (by omega) (by omega), by simp [RV]⟩
        · rename_i nm off len hx
          cases hlk : look h nm with
          | none => simp [hlk] at hp
          | some row =>
            cases hh : bnd? ρ len hi with
            | none => simp [hlk, hh] at hp
            | some m =>
              simp only [hlk, hh, Option.bind_some, Option.map_some, Option.some.injEq, Prod.mk.injEq] at hp
              obtain ⟨rfl, rfl, rfl, _⟩ := hp
              obtain ⟨p1, p2, p3, p4, p5⟩ := hpp
              refine tri_read1 ?_
              intro e L0 H Lf a hn hk hr ht
              subst hn
              have g1 := RV_arg (ρ := ρ) ht h1
              rw [hx] at g1
              rcases ns_at hr g1 with ⟨hq, _, rfl, rfl, aa, g2⟩ | ⟨q, A, Lr, hq, q1, q2, q3, q4, q5, q6, q7⟩
              · have hl0 : l = 0 := by omega
                have hm0 : m = 0 := by omega
                subst hl0 hm0
                refine ⟨_, fun w => key e a w aa 0 0 0 0 rfl ht g2 hl hh (by omega) (by omega) (by omega) (by omega), ?_⟩
                simp [RV, hq]
              · refine ⟨_, fun w => key e a w (some A) len _ l m rfl ht q6 hl hh p3 p4 p5 (by omega), ?_⟩
                simp only [RV, hq, true_and]
                refine ⟨by omega, ?_⟩
                by_cases hcap : q.cap - off = l.toNat
                · rw [if_pos hcap]
                  exact ⟨A, by rw [show q.cap - (off + l.toNat) = q.cap - off - l.toNat by omega], fun hlt => by omega⟩
                · rw [if_neg hcap]
                  refine ⟨A.add (l.toNat * sz), by rw [show q.cap - (off + l.toNat) = q.cap - off - l.toNat by omega]; rfl, fun hlt => ?_⟩
                  rw [q7 (by omega), add_mk, ← p1, ← q1, Nat.add_mul, Nat.add_assoc]
        · rename_i s rows hx
          cases hh : bnd? ρ rows.length hi with
          | none => simp [hh] at hp
          | some m =>
            simp only [hh, Option.map_some, Option.some.injEq, Prod.mk.injEq] at hp
            obtain ⟨rfl, rfl, rfl, _⟩ := hp
            obtain ⟨p1, p3, p4, p5⟩ := hpp
            refine tri_pure (m := .mv x) ?_
            intro e a hn ht
            subst hn
            have g1 := RV_arg (ρ := ρ) ht h1
            rw [hx] at g1
            simp only [RV] at g1
            rcases g1.2 with ⟨rfl, A, c, q1, q2⟩ | ⟨b, o', c, q1, q2, q3, q4⟩
            · simp only [List.length_nil] at hh p5
              have hl0 : l = 0 := by omega
              have hm0 : m = 0 := by omega
              subst hl0 hm0
              refine ⟨_, fun w => key e a w A 0 c 0 0 rfl ht q1 hl hh (by omega) (by omega) (by omega) (by omega), ?_⟩
              simp only [RV, true_and]
              refine .inl ⟨by simp, _, _, rfl, ?_⟩
              intro hA
              cases A with
              | none => have := q2 rfl; omega
              | some A => split at hA <;> simp at hA
            · refine ⟨_, fun w => key e a w _ rows.length c l m rfl ht q1 hl hh p3 p4 p5 q2, ?_⟩
              simp only [RV, true_and]
              have hlen : ((rows.drop l.toNat).take (m.toNat - l.toNat)).length = m.toNat - l.toNat := by simp; omega
              by_cases hz : m.toNat - l.toNat = 0
              · refine .inl ⟨List.length_eq_zero_iff.1 (by omega), _, _, by rw [hz], ?_⟩
                intro hA
                split at hA <;> simp at hA
              · refine .inr ⟨b, o' + l.toNat * s, c - l.toNat, ?_, by omega, q3, RRows_sub _ _ (by omega) q4⟩
                rw [if_neg (by omega), hlen, p1]
                simp [add_mk]
        · rename_i s rows hx
          cases hh : bnd? ρ rows.length hi with
          | none => simp [hh] at hp
          | some m =>
            simp only [hh, Option.map_some, Option.some.injEq, Prod.mk.injEq] at hp
            obtain ⟨rfl, rfl, rfl, _⟩ := hp
            obtain ⟨p1, p3, p4, p5⟩ := hpp
            refine tri_pure (m := .mv x) ?_
            intro e a hn ht
            subst hn
            have g1 := RV_arg (ρ := ρ) ht h1
            rw [hx] at g1
            simp only [RV] at g1
            rcases g1.2 with ⟨rfl, A, c, q1, q2⟩ | ⟨b, o', c, q1, q2, q3, q4⟩
            · simp only [List.length_nil] at hh p5
              have hl0 : l = 0 := by omega
              have hm0 : m = 0 := by omega
              subst hl0 hm0
              refine ⟨_, fun w => key e a w A 0 c 0 0 rfl ht q1 hl hh (by omega) (by omega) (by omega) (by omega), ?_⟩
              simp only [RV, true_and]
              refine .inl ⟨by simp, _, _, rfl, ?_⟩
              intro hA
              cases A with
              | none => have := q2 rfl; omega
              | some A => split at hA <;> simp at hA
            · refine ⟨_, fun w => key e a w _ rows.length c l m rfl ht q1 hl hh p3 p4 p5 q2, ?_⟩
              simp only [RV, true_and]
              have hlen : ((rows.drop l.toNat).take (m.toNat - l.toNat)).length = m.toNat - l.toNat := by simp; omega
              by_cases hz : m.toNat - l.toNat = 0
              · refine .inl ⟨List.length_eq_zero_iff.1 (by omega), _, _, by rw [hz], ?_⟩
                intro hA
                split at hA <;> simp at hA
              · refine .inr ⟨b, o' + l.toNat * s, c - l.toNat, ?_, by omega, q3, RRows_sub _ _ (by omega) q4⟩
                rw [if_neg (by omega), hlen, p1]
                simp [add_mk]
        · simp at hp
  · simp at hc

end
end Go.Sep
