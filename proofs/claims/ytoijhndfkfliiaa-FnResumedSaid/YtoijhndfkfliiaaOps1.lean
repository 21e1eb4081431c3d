/- Operations that turn no row. -/
import Derived.Test.YtoijhndfkfliiaaChk
namespace Go.Sep
set_option linter.unusedVariables false
set_option linter.unusedSimpArgs false

section
variable {P : Program} {num : Nat → Nat} {o : Oper} {ρ : Nat → AV} {h : Heap} {nx nx' : Nat} {p : Prop} {v : AV} {fp : FP}

theorem ok_inj {v' : AV} {n : Nat} (hp : ok v' n = some (p, v, fp, nx')) : v = v' ∧ fp = [] := by
  simp [ok] at hp
  exact ⟨hp.2.1.symm, hp.2.2.1⟩

theorem tri_pure {m : MOp} (h : ∀ (e : Env) (a : Act), e.num = num → (∀ t, RV e (ρ t) (a.tmps.getD t undef) []) → ∃ v', (∀ w, (execOp a.eval o).run P w = .ok (.value v') w) ∧ RV e v v' []) :
    TriR P num o ρ v [] := by
  refine Tri.of_read (by simp) ?_
  intro e L0 H Lf a hn hk _ ht
  obtain ⟨v', h1, h2⟩ := h e a hn ht
  exact ⟨v', fun w _ => h1 w, h2⟩

theorem tri_mv {x : Arg} (hc : chkOp P num (.mv x) o.op = true) (hp : plan ρ h nx (.mv x) = some (p, v, fp, nx')) : TriR P num o ρ v fp := by
  simp only [plan] at hp
  obtain ⟨rfl, rfl⟩ := ok_inj hp
  refine tri_pure (m := .mv x) ?_
  intro e a hn ht
  subst hn
  simp only [chkOp] at hc
  split at hc
  · rename_i y hop
    exact ⟨a.eval y, fun w => by simp [execOp, hop], RV_arg ht hc⟩
  · rename_i y hop
    exact ⟨a.eval y, fun w => by simp [execOp, hop], RV_arg ht hc⟩
  · simp at hc

theorem RV_int {e : Env} {k : IntKind} {n : Int} {c : Value} {L : List Nat} (h : RV e (.int k n) c L) : c = .int k n := by simp only [RV] at h; exact h.1
theorem RV_bool {e : Env} {b : Bool} {c : Value} {L : List Nat} (h : RV e (.bool b) c L) : c = .bool b := by simp only [RV] at h; exact h.1
theorem RV_str {e : Env} {s : ByteArray} {c : Value} {L : List Nat} (h : RV e (.str s) c L) : c = .string s := by simp only [RV] at h; exact h.1

theorem tri_pick {c x y : Arg} (hc : chkOp P num (.pick c x y) o.op = true) (hp : plan ρ h nx (.pick c x y) = some (p, v, fp, nx')) : TriR P num o ρ v fp := by
  simp only [chkOp] at hc
  split at hc
  · rename_i c' a' b' hop
    simp only [Bool.and_eq_true] at hc
    obtain ⟨⟨h1, h2⟩, h3⟩ := hc
    simp only [plan] at hp
    split at hp
    · rename_i q hq
      have hv : fp = [] ∧ v = (bif q then x.ev ρ else y.ev ρ) := by
        split at hp
        · rename_i a b ha hb
          obtain ⟨rfl, rfl⟩ := ok_inj hp
          rw [ha, hb]
          cases q <;> simp
        · obtain ⟨rfl, rfl⟩ := ok_inj hp
          exact ⟨rfl, rfl⟩
      obtain ⟨rfl, rfl⟩ := hv
      refine tri_pure (m := .mv x) ?_
      intro e a hn ht
      subst hn
      have e1 := RV_arg (ρ := ρ) ht h1
      rw [hq] at e1
      have e1 := RV_bool e1
      refine ⟨if q then a.eval a' else a.eval b', ?_, ?_⟩
      · intro w; simp only [execOp, hop, Sem.run_bind, Sem.run_pure, asBool, e1, Result.andThen_ok]
      · cases q
        · exact RV_arg ht h3
        · exact RV_arg ht h2
    · simp at hp
  · simp at hc

/-- One name, read alone. -/
theorem tri_read1 {nm : Nat} {row : Row} (h : ∀ (e : Env) (L0 : List Nat) (H : Nat → Option Row) (Lf : Nat → List Nat) (a : Act), e.num = num → Ok e L0 H Lf → RowAt e nm row (Lf nm) → (∀ t, RV e (ρ t) (a.tmps.getD t undef) []) →
    ∃ v', (∀ w, (execOp a.eval o).run P w = .ok (.value v') w) ∧ RV e v v' []) : TriR P num o ρ v [(nm, some row, some row)] := by
  refine Tri.of_read (by simp) ?_
  intro e L0 H Lf a hn hk hpre ht
  have := hpre (nm, some row, some row) (by simp)
  obtain ⟨v', h1, h2⟩ := h e L0 H Lf a hn hk (hk.rh.row nm row this) ht
  exact ⟨v', fun w _ => h1 w, h2⟩

theorem ptr_at {e : Env} {nm i f : Nat} {row : Row} {L L' : List Nat} {c : Value} (hr : RowAt e nm row L) (h : RV e (.ptr nm i f) c L') :
    ∃ p, e.φ nm = .at p ∧ c = .pointer (some ⟨p.block, p.off + i * p.sz + f, none⟩) := by
  simp only [RV] at h
  obtain ⟨_, h⟩ := h
  unfold RowAt RowSp at hr
  cases hq : e.φ nm with
  | dead => rw [hq] at hr; exact hr.elim
  | nilp => rw [hq] at h; exact h.elim
  | «at» p => rw [hq] at h; exact ⟨p, rfl, h⟩

theorem RV_ptr {e : Env} {nm i f : Nat} {p : Place} (hq : e.φ nm = .at p) : RV e (.ptr nm i f) (.pointer (some ⟨p.block, p.off + i * p.sz + f, none⟩)) [] := by
  simp only [RV, hq, and_self]

theorem tri_nilck {x : Arg} (hc : chkOp P num (.nilck x) o.op = true) (hp : plan ρ h nx (.nilck x) = some (p, v, fp, nx')) : TriR P num o ρ v fp := by
  simp only [chkOp] at hc
  split at hc
  · rename_i y hop
    simp only [plan] at hp
    split at hp
    · rename_i nm i f hx
      cases hl : look h nm with
      | none => simp [hl] at hp
      | some row =>
        simp [hl] at hp
        obtain ⟨_, rfl, rfl, _⟩ := hp
        refine tri_read1 ?_
        intro e L0 H Lf a hn hk hr ht
        subst hn
        have h1 := RV_arg (ρ := ρ) ht hc
        rw [hx] at h1
        obtain ⟨q, hq, h2⟩ := ptr_at hr h1
        exact ⟨_, fun w => by simp [execOp, hop, h2], RV_ptr hq⟩
    · rename_i m cs f hx
      obtain ⟨rfl, rfl⟩ := ok_inj hp
      refine tri_pure (m := .mv x) ?_
      intro e a hn ht
      subst hn
      have h1 := RV_arg (ρ := ρ) ht hc
      rw [hx] at h1
      have h2 := h1
      simp only [RV] at h2
      obtain ⟨_, b, o', vs, h2, _⟩ := h2
      exact ⟨_, fun w => by simp [execOp, hop, h2], h2 ▸ h1⟩
    · simp at hp
  · simp at hc

theorem sizeIs_some {t : TypeId} {n : Nat} (h : sizeIs P t n = true) : ∃ i, P.info? t = some i ∧ i.size = n := by
  simp [sizeIs] at h
  exact h
theorem bytesIs_some {t : TypeId} {n : Nat} (h : bytesIs P t n = true) : ∃ i, P.info? t = some i ∧ i.bytes = n := by
  simp [bytesIs] at h
  exact h
theorem elemOf_some {t el : TypeId} (h : elemOf? P t = some el) : P.underlying t = some (.slice el) := by
  unfold elemOf? at h
  split at h
  · simp at h; subst h; assumption
  · simp at h
theorem fieldsOf_some {t : TypeId} {fs : Array Field} (h : fieldsOf P t = some fs) : P.underlying t = some (.struct fs) := by
  unfold fieldsOf at h
  split at h
  · simp at h; subst h; assumption
  · simp at h
theorem isStr_some {t : TypeId} (h : isStr P t = true) : P.underlying t = some .string := by
  unfold isStr at h
  split at h
  · assumption
  · simp at h
theorem isBool_some {t : TypeId} (h : isBool P t = true) : P.underlying t = some .bool := by
  unfold isBool at h
  split at h
  · assumption
  · simp at h

theorem run_fieldAt {w : World} {s : TypeId} {f b o' : Nat} {fs : Array Field} {g : Field} {i : TypeInfo} (h1 : P.underlying s = some (.struct fs)) (h2 : fs[f]? = some g) (h3 : P.info? g.type = some i) (h4 : i.size ≠ 0) :
    (Instr.fieldAt s (.pointer (some ⟨b, o', none⟩)) f).run P w = .ok (.pointer (some ⟨b, o' + g.offset, none⟩)) w := by
  simp [Instr.fieldAt, run_underlying' h1, h2, Instr.sureAddr, fieldPlace, run_sizeOf' h3, h4, add_mk]

theorem tri_fad {off : Nat} {x : Arg} (hc : chkOp P num (.fad off x) o.op = true) (hp : plan ρ h nx (.fad off x) = some (p, v, fp, nx')) : TriR P num o ρ v fp := by
  simp only [chkOp] at hc
  split at hc
  · rename_i s y f hop
    simp only [Bool.and_eq_true] at hc
    obtain ⟨hc, h5⟩ := hc
    cases hfs : fieldsOf P s with
    | none => simp [hfs] at h5
    | some fs =>
      simp only [hfs] at h5
      cases hg : fs[f]? with
      | none => simp [hg] at h5
      | some g =>
        simp only [hg, Bool.and_eq_true, beq_iff_eq] at h5
        obtain ⟨h6, h7⟩ := h5
        cases hi : P.info? g.type with
        | none => simp [hi] at h7
        | some i =>
          simp only [hi, bne_iff_ne, ne_eq] at h7
          simp only [plan] at hp
          split at hp
          · rename_i nm i' f' hx
            cases hl : look h nm with
            | none => simp [hl] at hp
            | some row =>
              simp [hl] at hp
              obtain ⟨_, rfl, rfl, _⟩ := hp
              refine tri_read1 ?_
              intro e L0 H Lf a hn hk hr ht
              subst hn
              have h1 := RV_arg (ρ := ρ) ht hc
              rw [hx] at h1
              obtain ⟨q, hq, h2⟩ := ptr_at hr h1
              refine ⟨_, ?_, RV_ptr hq⟩
              intro w
              simp only [execOp, hop, h2, Sem.run_bind, run_fieldAt (fieldsOf_some hfs) hg hi h7, Result.andThen_ok, Sem.run_pure, h6]
              rw [Nat.add_assoc]
          · rename_i m cs f' hx
            obtain ⟨rfl, rfl⟩ := ok_inj hp
            refine tri_pure (m := .mv x) ?_
            intro e a hn ht
            subst hn
            have h1 := RV_arg (ρ := ρ) ht hc
            rw [hx] at h1
            simp only [RV] at h1 ⊢
            obtain ⟨_, b, o', vs, h2, h3⟩ := h1
            refine ⟨.pointer (some ⟨b, o' + f' + off, none⟩), ?_, trivial, b, o', vs, by rw [Nat.add_assoc], h3⟩
            intro w
            simp only [execOp, hop, h2, Sem.run_bind, run_fieldAt (fieldsOf_some hfs) hg hi h7, Result.andThen_ok, Sem.run_pure, h6]
          · simp at hp
  · simp at hc

theorem tri_un {u : UnOp} {x : Arg} (hc : chkOp P num (.un u x) o.op = true) (hp : plan ρ h nx (.un u x) = some (p, v, fp, nx')) : TriR P num o ρ v fp := by
  simp only [chkOp] at hc
  split at hc
  · rename_i u' t y hop
    simp only [Bool.and_eq_true, beq_iff_eq] at hc
    obtain ⟨rfl, hc⟩ := hc
    simp only [plan] at hp
    split at hp
    · rename_i b hx
      obtain ⟨rfl, rfl⟩ := ok_inj hp
      refine tri_pure (m := .mv x) ?_
      intro e a hn ht
      subst hn
      have h1 := RV_arg (ρ := ρ) ht hc
      rw [hx] at h1
      exact ⟨.bool !b, fun w => by simp [execOp, hop, RV_bool h1, Op.unary], by simp [RV]⟩
    · rename_i k n hx
      obtain ⟨rfl, rfl⟩ := ok_inj hp
      refine tri_pure (m := .mv x) ?_
      intro e a hn ht
      subst hn
      have h1 := RV_arg (ρ := ρ) ht hc
      rw [hx] at h1
      exact ⟨.int k (k.wrap (0 - n)), fun w => by simp [execOp, hop, RV_int h1, Op.unary, Op.intArith], by simp [RV]⟩
    · simp at hp
  · simp at hc

theorem tri_cvi {k : IntKind} {x : Arg} (hc : chkOp P num (.cvi k x) o.op = true) (hp : plan ρ h nx (.cvi k x) = some (p, v, fp, nx')) : TriR P num o ρ v fp := by
  simp only [chkOp] at hc
  split at hc
  · rename_i s d y hop
    simp only [Bool.and_eq_true] at hc
    obtain ⟨hc, h5⟩ := hc
    split at h5
    · rename_i ds k' hs hd
      simp only [beq_iff_eq] at h5
      subst h5
      simp only [plan] at hp
      split at hp
      · rename_i k2 n hx
        obtain ⟨rfl, rfl⟩ := ok_inj hp
        refine tri_pure (m := .mv x) ?_
        intro e a hn ht
        subst hn
        have h1 := RV_arg (ρ := ρ) ht hc
        rw [hx] at h1
        exact ⟨.int k (k.wrap n), fun w => by simp [execOp, hop, RV_int h1, convert, run_underlying' hs, run_underlying' hd, Conv.intToInt], by simp [RV]⟩
      · simp at hp
    · simp at h5
  · simp at hc

theorem tri_ext {x : Arg} {i : Nat} (hc : chkOp P num (.ext x i) o.op = true) (hp : plan ρ h nx (.ext x i) = some (p, v, fp, nx')) (hpp : p) : TriR P num o ρ v fp := by
  simp only [chkOp] at hc
  split at hc
  · rename_i y j hop
    simp only [Bool.and_eq_true, beq_iff_eq] at hc
    obtain ⟨hc, rfl⟩ := hc
    simp only [plan] at hp
    split at hp
    · rename_i vs hx
      simp only [Option.some.injEq, Prod.mk.injEq] at hp
      obtain ⟨rfl, rfl, rfl, _⟩ := hp
      refine tri_pure (m := .mv x) ?_
      intro e a hn ht
      subst hn
      have h1 := RV_arg (ρ := ρ) ht hc
      rw [hx] at h1
      simp only [RV] at h1
      obtain ⟨cs, h1, h2⟩ := h1
      obtain ⟨c, h3, h4⟩ := RVs_nil_get h2 i hpp
      refine ⟨c, fun w => by simp [execOp, hop, h1, Instr.extract, h3], ?_⟩
      simpa [List.getD_eq_getElem?_getD, hpp] using h4
    · simp at hp
  · simp at hc

theorem tri_lenS {x : Arg} (hc : chkOp P num (.lenS x) o.op = true) (hp : plan ρ h nx (.lenS x) = some (p, v, fp, nx')) : TriR P num o ρ v fp := by
  simp only [chkOp] at hc
  split at hc
  · rename_i args tys hop
    split at hc
    · rename_i y t ha htys
      simp only [Bool.and_eq_true] at hc
      obtain ⟨hc, hs⟩ := hc
      simp only [plan] at hp
      split at hp
      · rename_i s hx
        obtain ⟨rfl, rfl⟩ := ok_inj hp
        refine tri_pure (m := .mv x) ?_
        intro e a hn ht
        subst hn
        have h1 := RV_arg (ρ := ρ) ht hc
        rw [hx] at h1
        have hargs : args = #[y] := Array.toList_inj.1 ha
        subst hargs
        exact ⟨.int .i64 s.size, fun w => by simp [execOp, hop, resolve, invoke, builtin, Builtin.len_, htys, run_underlying' (isStr_some hs), RV_str h1, goInt], by simp [RV]⟩
      · simp at hp
    · simp at hc
  · simp at hc

theorem tri_len {x : Arg} (hc : chkOp P num (.len x) o.op = true) (hp : plan ρ h nx (.len x) = some (p, v, fp, nx')) : TriR P num o ρ v fp := by
  simp only [chkOp] at hc
  split at hc
  · rename_i args tys hop
    split at hc
    · rename_i y t ha htys
      simp only [Bool.and_eq_true] at hc
      obtain ⟨hc, hs⟩ := hc
      obtain ⟨el, hel⟩ := Option.isSome_iff_exists.1 hs
      have hargs : args = #[y] := Array.toList_inj.1 ha
      subst hargs
      have key : ∀ (a : Act) (w : World) (A : Option Addr) (l c : Nat), a.eval y = .slice A l c → (execOp a.eval o).run P w = .ok (.value (.int .i64 l)) w := by
        intro a w A l c hv
        simp [execOp, hop, resolve, invoke, builtin, Builtin.len_, htys, run_underlying' (elemOf_some hel), hv, goInt]
      simp only [plan] at hp
      split at hp
      · rename_i hx
        obtain ⟨rfl, rfl⟩ := ok_inj hp
        refine tri_pure (m := .mv x) ?_
        intro e a hn ht
        subst hn
        have h1 := RV_arg (ρ := ρ) ht hc
        rw [hx] at h1
        simp only [RV] at h1
        exact ⟨.int .i64 0, fun w => key a w _ _ _ h1.1, by simp [RV]⟩
      · rename_i nm off l hx
        cases hl : look h nm with
        | none => simp [hl] at hp
        | some row =>
          simp only [hl, Option.map_some, Option.some.injEq, Prod.mk.injEq] at hp
          obtain ⟨_, rfl, rfl, _⟩ := hp
          refine tri_read1 ?_
          intro e L0 H Lf a hn hk hr ht
          subst hn
          have h1 := RV_arg (ρ := ρ) ht hc
          rw [hx] at h1
          simp only [RV] at h1
          obtain ⟨_, h1⟩ := h1
          unfold RowAt RowSp at hr
          cases hq : e.φ nm with
          | dead => rw [hq] at hr; exact hr.elim
          | nilp =>
            rw [hq] at h1
            obtain ⟨_, h2, _, h3⟩ := h1
            subst h2
            exact ⟨.int .i64 0, fun w => key a w _ _ _ h3, by simp [RV]⟩
          | «at» q =>
            rw [hq] at h1
            obtain ⟨_, A, h3, _⟩ := h1
            exact ⟨.int .i64 l, fun w => key a w _ _ _ h3, by simp [RV]⟩
      · rename_i sz rows hx
        obtain ⟨rfl, rfl⟩ := ok_inj hp
        refine tri_pure (m := .mv x) ?_
        intro e a hn ht
        subst hn
        have h1 := RV_arg (ρ := ρ) ht hc
        rw [hx] at h1
        simp only [RV] at h1
        refine ⟨.int .i64 rows.length, ?_, by simp [RV]⟩
        rcases h1.2 with ⟨rfl, A, c, h2, _⟩ | ⟨b, o', c, h2, _⟩
        · exact fun w => key a w _ _ _ h2
        · exact fun w => key a w _ _ _ h2
      · rename_i sz rows hx
        obtain ⟨rfl, rfl⟩ := ok_inj hp
        refine tri_pure (m := .mv x) ?_
        intro e a hn ht
        subst hn
        have h1 := RV_arg (ρ := ρ) ht hc
        rw [hx] at h1
        simp only [RV] at h1
        refine ⟨.int .i64 rows.length, ?_, by simp [RV]⟩
        rcases h1.2 with ⟨rfl, A, c, h2, _⟩ | ⟨b, o', c, h2, _⟩
        · exact fun w => key a w _ _ _ h2
        · exact fun w => key a w _ _ _ h2
      · simp at hp
    · simp at hc
  · simp at hc

theorem tri_mx {x z : Arg} (hc : chkOp P num (.mx x z) o.op = true) (hp : plan ρ h nx (.mx x z) = some (p, v, fp, nx')) : TriR P num o ρ v fp := by
  simp only [chkOp] at hc
  split at hc
  · rename_i args tys hop
    split at hc
    · rename_i y u ha
      simp only [Bool.and_eq_true] at hc
      obtain ⟨hc, hs⟩ := hc
      have hargs : args = #[y, u] := Array.toList_inj.1 ha
      subst hargs
      simp only [plan] at hp
      split at hp
      · rename_i k m k' n hx hz
        split at hp
        · rename_i hk
          subst hk
          obtain ⟨rfl, rfl⟩ := ok_inj hp
          refine tri_pure (m := .mv x) ?_
          intro e a hn ht
          subst hn
          have h1 := RV_arg (ρ := ρ) ht hc
          rw [hx] at h1
          have h2 := RV_arg (ρ := ρ) ht hs
          rw [hz] at h2
          exact ⟨.int k (if n > m then n else m), fun w => by simp [execOp, hop, resolve, invoke, builtin, Builtin.max_, Builtin.max2, RV_int h1, RV_int h2], by simp [RV]⟩
        · simp at hp
      · simp at hp
    · simp at hc
  · simp at hc

theorem tri_idx {x z : Arg} (hc : chkOp P num (.idx x z) o.op = true) (hp : plan ρ h nx (.idx x z) = some (p, v, fp, nx')) (hpp : p) : TriR P num o ρ v fp := by
  simp only [chkOp] at hc
  split at hc
  · rename_i t y u hop
    simp only [Bool.and_eq_true] at hc
    obtain ⟨⟨h1, h2⟩, h3⟩ := hc
    simp only [plan] at hp
    split at hp
    · rename_i s k j hx hz
      simp only [Option.some.injEq, Prod.mk.injEq] at hp
      obtain ⟨rfl, rfl, rfl, _⟩ := hp
      obtain ⟨p1, p2⟩ := hpp
      refine tri_pure (m := .mv x) ?_
      intro e a hn ht
      subst hn
      have g1 := RV_arg (ρ := ρ) ht h1
      rw [hx] at g1
      have g2 := RV_arg (ρ := ρ) ht h2
      rw [hz] at g2
      have hj : j.toNat < s.size := by omega
      have hs : s[j.toNat]? = some s[j.toNat] := by simp [hj]
      refine ⟨.int .u8 ((s.data.getD j.toNat 0).toNat : Nat), ?_, by simp [RV]⟩
      have hd : s.data.getD j.toNat 0 = s[j.toNat] := by
        unfold Array.getD
        rw [dif_pos (show j.toNat < s.data.size from hj)]
        rfl
      rw [hd]
      intro w
      simp [execOp, hop, RV_str g1, RV_int g2, Instr.index, asIntOf, run_underlying' (isStr_some h3), p1, hs]
    · simp at hp
  · simp at hc

theorem tri_eqB {neg : Bool} {x z : Arg} (hc : chkOp P num (.eqB neg x z) o.op = true) (hp : plan ρ h nx (.eqB neg x z) = some (p, v, fp, nx')) : TriR P num o ρ v fp := by
  simp only [chkOp] at hc
  split at hc
  · rename_i b t y u _ hop
    simp only [Bool.and_eq_true] at hc
    obtain ⟨⟨⟨h0, h1⟩, h2⟩, h3⟩ := hc
    simp only [plan] at hp
    split at hp
    · rename_i c d hx hz
      obtain ⟨rfl, rfl⟩ := ok_inj hp
      refine tri_pure (m := .mv x) ?_
      intro e a hn ht
      subst hn
      have g1 := RV_arg (ρ := ρ) ht h1
      rw [hx] at g1
      have g2 := RV_arg (ρ := ρ) ht h2
      rw [hz] at g2
      refine ⟨.bool (if neg then !(c == d) else c == d), ?_, by simp [RV]⟩
      have he : ∀ w, (Op.equal t (.bool c) (.bool d)).run P w = .ok (c == d) w := by
        intro w
        unfold Op.equal Op.maxDepth Op.equalIn
        simp [run_underlying' (isBool_some h3)]
      intro w
      cases neg
      · simp at h0
        subst h0
        simp [execOp, hop, RV_bool g1, RV_bool g2, eqGuard, binOp, he]
      · simp at h0
        subst h0
        simp [execOp, hop, RV_bool g1, RV_bool g2, eqGuard, binOp, he]
    · simp at hp
  · simp at hc

theorem isIface_some {t : TypeId} (h : isIface P t = true) : ∃ ms, P.underlying t = some (.interface ms) := by
  unfold isIface at h
  split at h
  · exact ⟨_, by assumption⟩
  · simp at h

theorem tri_neNil {x : Arg} (hc : chkOp P num (.neNil x) o.op = true) (hp : plan ρ h nx (.neNil x) = some (p, v, fp, nx')) : TriR P num o ρ v fp := by
  simp only [chkOp] at hc
  split at hc
  · rename_i t y _ hop
    simp only [Bool.and_eq_true] at hc
    obtain ⟨h1, h3⟩ := hc
    obtain ⟨ms, h3⟩ := isIface_some h3
    simp only [plan] at hp
    split at hp
    · rename_i hx
      obtain ⟨rfl, rfl⟩ := ok_inj hp
      refine tri_pure (m := .mv x) ?_
      intro e a hn ht
      subst hn
      have g1 := RV_arg (ρ := ρ) ht h1
      rw [hx] at g1
      simp only [RV] at g1
      refine ⟨.bool false, ?_, by simp [RV]⟩
      have he : ∀ w, (Op.equal t .nilIface .nilIface).run P w = .ok true w := by
        intro w
        unfold Op.equal Op.maxDepth Op.equalIn
        simp [run_underlying' h3]
      have hk : a.eval (.const .nilIface) = .nilIface := rfl
      intro w
      simp [execOp, hop, g1.1, hk, eqGuard, binOp, he]
    · rename_i hx
      obtain ⟨rfl, rfl⟩ := ok_inj hp
      refine tri_pure (m := .mv x) ?_
      intro e a hn ht
      subst hn
      have g1 := RV_arg (ρ := ρ) ht h1
      rw [hx] at g1
      simp only [RV] at g1
      obtain ⟨⟨t', u', g1⟩, _⟩ := g1
      refine ⟨.bool true, ?_, by simp [RV]⟩
      have he : ∀ w, (Op.equal t (.iface t' u') .nilIface).run P w = .ok false w := by
        intro w
        unfold Op.equal Op.maxDepth Op.equalIn
        simp [run_underlying' h3]
      have hk : a.eval (.const .nilIface) = .nilIface := rfl
      intro w
      simp [execOp, hop, g1, hk, eqGuard, binOp, he]
    · simp at hp
  · simp at hc

end
end Go.Sep
