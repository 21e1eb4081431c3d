/- The executor of symbolic states: the texts Ops1 Ops2 Ops3 Ops4, one after the other. No condition. -/
import Derived.Test.YtjbknbgdfhihcaaGreatChk
import Derived.Laws.Strings
import Derived.Laws.StructEq
/- Operations that turn no row. -/
namespace Go.Sep
set_option linter.unusedVariables false
set_option linter.unusedSimpArgs false

section
variable {P : Program} {num : Nat → Nat} {o : Oper} {ρ : Nat → AV} {h : Heap} {nx nx' : Nat} {p : Prop} {v : AV} {fp : FP}

theorem ok_inj {v' : AV} {n : Nat} (hp : ok v' n = some (p, v, fp, nx')) : v = v' ∧ fp = [] := by
  simp [ok] at hp
  exact ⟨hp.2.1.symm, hp.2.2.1⟩

theorem tri_pure {m : MOp} (h : ∀ (e : Env) (a : Act), e.num = num → (∀ t, RV e (ρ t) (a.tmps.getD t undef) []) → ∃ v', (∀ w, (execOp a.eval o).run P w = .ok (.value v') w) ∧ RV e v v' []) :
    TriR P num o ρ v [] := by
  refine Tri.of_read (by simp) ?_
  intro e L0 H Lf a hn hk _ ht
  obtain ⟨v', h1, h2⟩ := h e a hn ht
  exact ⟨v', fun w _ => h1 w, h2⟩

theorem tri_mv {x : Arg} (hc : chkOp P num (.mv x) o.op = true) (hp : plan ρ h nx (.mv x) = some (p, v, fp, nx')) : TriR P num o ρ v fp := by
  simp only [plan] at hp
  obtain ⟨rfl, rfl⟩ := ok_inj hp
  refine tri_pure (m := .mv x) ?_
  intro e a hn ht
  subst hn
  simp only [chkOp] at hc
  split at hc
  · rename_i y hop
    exact ⟨a.eval y, fun w => by simp [execOp, hop], RV_arg ht hc⟩
  · rename_i y hop
    exact ⟨a.eval y, fun w => by simp [execOp, hop], RV_arg ht hc⟩
  · simp at hc

theorem RV_int {e : Env} {k : IntKind} {n : Int} {c : Value} {L : List Nat} (h : RV e (.int k n) c L) : c = .int k n := by simp only [RV] at h; exact h.1
theorem RV_bool {e : Env} {b : Bool} {c : Value} {L : List Nat} (h : RV e (.bool b) c L) : c = .bool b := by simp only [RV] at h; exact h.1
theorem RV_str {e : Env} {s : ByteArray} {c : Value} {L : List Nat} (h : RV e (.str s) c L) : c = .string s := by simp only [RV] at h; exact h.1

theorem tri_pick {c x y : Arg} (hc : chkOp P num (.pick c x y) o.op = true) (hp : plan ρ h nx (.pick c x y) = some (p, v, fp, nx')) : TriR P num o ρ v fp := by
  simp only [chkOp] at hc
  split at hc
  · rename_i c' a' b' hop
    simp only [Bool.and_eq_true] at hc
    obtain ⟨⟨h1, h2⟩, h3⟩ := hc
    simp only [plan] at hp
    split at hp
    · rename_i q hq
      have hv : fp = [] ∧ v = (bif q then x.ev ρ else y.ev ρ) := by
        split at hp
        · rename_i a b ha hb
          obtain ⟨rfl, rfl⟩ := ok_inj hp
          rw [ha, hb]
          cases q <;> simp
        · obtain ⟨rfl, rfl⟩ := ok_inj hp
          exact ⟨rfl, rfl⟩
      obtain ⟨rfl, rfl⟩ := hv
      refine tri_pure (m := .mv x) ?_
      intro e a hn ht
      subst hn
      have e1 := RV_arg (ρ := ρ) ht h1
      rw [hq] at e1
      have e1 := RV_bool e1
      refine ⟨if q then a.eval a' else a.eval b', ?_, ?_⟩
      · intro w; simp only [execOp, hop, Sem.run_bind, Sem.run_pure, asBool, e1, Result.andThen_ok]
      · cases q
        · exact RV_arg ht h3
        · exact RV_arg ht h2
    · simp at hp
  · simp at hc

/-- One name, read alone. -/
theorem tri_read1 {nm : Nat} {row : Row} (h : ∀ (e : Env) (L0 : List Nat) (H : Nat → Option Row) (Lf : Nat → List Nat) (a : Act), e.num = num → Ok e L0 H Lf → RowAt e nm row (Lf nm) → (∀ t, RV e (ρ t) (a.tmps.getD t undef) []) →
    ∃ v', (∀ w, (execOp a.eval o).run P w = .ok (.value v') w) ∧ RV e v v' []) : TriR P num o ρ v [(nm, some row, some row)] := by
  refine Tri.of_read (by simp) ?_
  intro e L0 H Lf a hn hk hpre ht
  have := hpre (nm, some row, some row) (by simp)
  obtain ⟨v', h1, h2⟩ := h e L0 H Lf a hn hk (hk.rh.row nm row this) ht
  exact ⟨v', fun w _ => h1 w, h2⟩

theorem ptr_at {e : Env} {nm i f : Nat} {row : Row} {L L' : List Nat} {c : Value} (hr : RowAt e nm row L) (h : RV e (.ptr nm i f) c L') :
    ∃ p, e.φ nm = .at p ∧ c = .pointer (some ⟨p.block, p.off + i * p.sz + f, none⟩) := by
  simp only [RV] at h
  obtain ⟨_, h⟩ := h
  unfold RowAt RowSp at hr
  cases hq : e.φ nm with
  | dead => rw [hq] at hr; exact hr.elim
  | nilp => rw [hq] at h; exact h.elim
  | «at» p => rw [hq] at h; exact ⟨p, rfl, h⟩

theorem RV_ptr {e : Env} {nm i f : Nat} {p : Place} (hq : e.φ nm = .at p) : RV e (.ptr nm i f) (.pointer (some ⟨p.block, p.off + i * p.sz + f, none⟩)) [] := by
  simp only [RV, hq, and_self]

theorem tri_nilck {x : Arg} (hc : chkOp P num (.nilck x) o.op = true) (hp : plan ρ h nx (.nilck x) = some (p, v, fp, nx')) : TriR P num o ρ v fp := by
  simp only [chkOp] at hc
  split at hc
  · rename_i y hop
    simp only [plan] at hp
    split at hp
    · rename_i nm i f hx
      cases hl : look h nm with
      | none => simp [hl] at hp
      | some row =>
        simp [hl] at hp
        obtain ⟨_, rfl, rfl, _⟩ := hp
        refine tri_read1 ?_
        intro e L0 H Lf a hn hk hr ht
        subst hn
        have h1 := RV_arg (ρ := ρ) ht hc
        rw [hx] at h1
        obtain ⟨q, hq, h2⟩ := ptr_at hr h1
        exact ⟨_, fun w => by simp [execOp, hop, h2], RV_ptr hq⟩
    · rename_i m cs f hx
      obtain ⟨rfl, rfl⟩ := ok_inj hp
      refine tri_pure (m := .mv x) ?_
      intro e a hn ht
      subst hn
      have h1 := RV_arg (ρ := ρ) ht hc
      rw [hx] at h1
      have h2 := h1
      simp only [RV] at h2
      obtain ⟨_, b, o', vs, h2, _⟩ := h2
      exact ⟨_, fun w => by simp [execOp, hop, h2], h2 ▸ h1⟩
    · simp at hp
  · simp at hc

theorem sizeIs_some {t : TypeId} {n : Nat} (h : sizeIs P t n = true) : ∃ i, P.info? t = some i ∧ i.size = n := by
  simp [sizeIs] at h
  exact h
theorem bytesIs_some {t : TypeId} {n : Nat} (h : bytesIs P t n = true) : ∃ i, P.info? t = some i ∧ i.bytes = n := by
  simp [bytesIs] at h
  exact h
theorem elemOf_some {t el : TypeId} (h : elemOf? P t = some el) : P.underlying t = some (.slice el) := by
  unfold elemOf? at h
  split at h
  · simp at h; subst h; assumption
  · simp at h
theorem fieldsOf_some {t : TypeId} {fs : Array Field} (h : fieldsOf P t = some fs) : P.underlying t = some (.struct fs) := by
  unfold fieldsOf at h
  split at h
  · simp at h; subst h; assumption
  · simp at h
theorem isStr_some {t : TypeId} (h : isStr P t = true) : P.underlying t = some .string := by
  unfold isStr at h
  split at h
  · assumption
  · simp at h
theorem isBool_some {t : TypeId} (h : isBool P t = true) : P.underlying t = some .bool := by
  unfold isBool at h
  split at h
  · assumption
  · simp at h

theorem run_fieldAt {w : World} {s : TypeId} {f b o' : Nat} {fs : Array Field} {g : Field} {i : TypeInfo} (h1 : P.underlying s = some (.struct fs)) (h2 : fs[f]? = some g) (h3 : P.info? g.type = some i) (h4 : i.size ≠ 0) :
    (Instr.fieldAt s (.pointer (some ⟨b, o', none⟩)) f).run P w = .ok (.pointer (some ⟨b, o' + g.offset, none⟩)) w := by
  simp [Instr.fieldAt, run_underlying' h1, h2, Instr.sureAddr, fieldPlace, run_sizeOf' h3, h4, add_mk]

theorem tri_fad {off : Nat} {x : Arg} (hc : chkOp P num (.fad off x) o.op = true) (hp : plan ρ h nx (.fad off x) = some (p, v, fp, nx')) : TriR P num o ρ v fp := by
  simp only [chkOp] at hc
  split at hc
  · rename_i s y f hop
    simp only [Bool.and_eq_true] at hc
    obtain ⟨hc, h5⟩ := hc
    cases hfs : fieldsOf P s with
    | none => simp [hfs] at h5
    | some fs =>
      simp only [hfs] at h5
      cases hg : fs[f]? with
      | none => simp [hg] at h5
      | some g =>
        simp only [hg, Bool.and_eq_true, beq_iff_eq] at h5
        obtain ⟨h6, h7⟩ := h5
        cases hi : P.info? g.type with
        | none => simp [hi] at h7
        | some i =>
          simp only [hi, bne_iff_ne, ne_eq] at h7
          simp only [plan] at hp
          split at hp
          · rename_i nm i' f' hx
            cases hl : look h nm with
            | none => simp [hl] at hp
            | some row =>
              simp [hl] at hp
              obtain ⟨_, rfl, rfl, _⟩ := hp
              refine tri_read1 ?_
              intro e L0 H Lf a hn hk hr ht
              subst hn
              have h1 := RV_arg (ρ := ρ) ht hc
              rw [hx] at h1
              obtain ⟨q, hq, h2⟩ := ptr_at hr h1
              refine ⟨_, ?_, RV_ptr hq⟩
              intro w
              simp only [execOp, hop, h2, Sem.run_bind, run_fieldAt (fieldsOf_some hfs) hg hi h7, Result.andThen_ok, Sem.run_pure, h6]
              rw [Nat.add_assoc]
          · rename_i m cs f' hx
            obtain ⟨rfl, rfl⟩ := ok_inj hp
            refine tri_pure (m := .mv x) ?_
            intro e a hn ht
            subst hn
            have h1 := RV_arg (ρ := ρ) ht hc
            rw [hx] at h1
            simp only [RV] at h1 ⊢
            obtain ⟨_, b, o', vs, h2, h3⟩ := h1
            refine ⟨.pointer (some ⟨b, o' + f' + off, none⟩), ?_, trivial, b, o', vs, by rw [Nat.add_assoc], h3⟩
            intro w
            simp only [execOp, hop, h2, Sem.run_bind, run_fieldAt (fieldsOf_some hfs) hg hi h7, Result.andThen_ok, Sem.run_pure, h6]
          · simp at hp
  · simp at hc

theorem tri_un {u : UnOp} {x : Arg} (hc : chkOp P num (.un u x) o.op = true) (hp : plan ρ h nx (.un u x) = some (p, v, fp, nx')) : TriR P num o ρ v fp := by
  simp only [chkOp] at hc
  split at hc
  · rename_i u' t y hop
    simp only [Bool.and_eq_true, beq_iff_eq] at hc
    obtain ⟨rfl, hc⟩ := hc
    simp only [plan] at hp
    split at hp
    · rename_i b hx
      obtain ⟨rfl, rfl⟩ := ok_inj hp
      refine tri_pure (m := .mv x) ?_
      intro e a hn ht
      subst hn
      have h1 := RV_arg (ρ := ρ) ht hc
      rw [hx] at h1
      exact ⟨.bool !b, fun w => by simp [execOp, hop, RV_bool h1, Op.unary], by simp [RV]⟩
    · rename_i k n hx
      obtain ⟨rfl, rfl⟩ := ok_inj hp
      refine tri_pure (m := .mv x) ?_
      intro e a hn ht
      subst hn
      have h1 := RV_arg (ρ := ρ) ht hc
      rw [hx] at h1
      exact ⟨.int k (k.wrap (0 - n)), fun w => by simp [execOp, hop, RV_int h1, Op.unary, Op.intArith], by simp [RV]⟩
    · simp at hp
  · simp at hc

theorem tri_cvi {k : IntKind} {x : Arg} (hc : chkOp P num (.cvi k x) o.op = true) (hp : plan ρ h nx (.cvi k x) = some (p, v, fp, nx')) : TriR P num o ρ v fp := by
  simp only [chkOp] at hc
  split at hc
  · rename_i s d y hop
    simp only [Bool.and_eq_true] at hc
    obtain ⟨hc, h5⟩ := hc
    split at h5
    · rename_i ds k' hs hd
      simp only [beq_iff_eq] at h5
      subst h5
      simp only [plan] at hp
      split at hp
      · rename_i k2 n hx
        obtain ⟨rfl, rfl⟩ := ok_inj hp
        refine tri_pure (m := .mv x) ?_
        intro e a hn ht
        subst hn
        have h1 := RV_arg (ρ := ρ) ht hc
        rw [hx] at h1
        exact ⟨.int k (k.wrap n), fun w => by simp [execOp, hop, RV_int h1, convert, run_underlying' hs, run_underlying' hd, Conv.intToInt], by simp [RV]⟩
      · simp at hp
    · simp at h5
  · simp at hc

theorem tri_ext {x : Arg} {i : Nat} (hc : chkOp P num (.ext x i) o.op = true) (hp : plan ρ h nx (.ext x i) = some (p, v, fp, nx')) (hpp : p) : TriR P num o ρ v fp := by
  simp only [chkOp] at hc
  split at hc
  · rename_i y j hop
    simp only [Bool.and_eq_true, beq_iff_eq] at hc
    obtain ⟨hc, rfl⟩ := hc
    simp only [plan] at hp
    split at hp
    · rename_i vs hx
      simp only [Option.some.injEq, Prod.mk.injEq] at hp
      obtain ⟨rfl, rfl, rfl, _⟩ := hp
      refine tri_pure (m := .mv x) ?_
      intro e a hn ht
      subst hn
      have h1 := RV_arg (ρ := ρ) ht hc
      rw [hx] at h1
      simp only [RV] at h1
      obtain ⟨cs, h1, h2⟩ := h1
      obtain ⟨c, h3, h4⟩ := RVs_nil_get h2 i hpp
      refine ⟨c, fun w => by simp [execOp, hop, h1, Instr.extract, h3], ?_⟩
      simpa [List.getD_eq_getElem?_getD, hpp] using h4
    · simp at hp
  · simp at hc

theorem tri_lenS {x : Arg} (hc : chkOp P num (.lenS x) o.op = true) (hp : plan ρ h nx (.lenS x) = some (p, v, fp, nx')) : TriR P num o ρ v fp := by
  simp only [chkOp] at hc
  split at hc
  · rename_i args tys hop
    split at hc
    · rename_i y t ha htys
      simp only [Bool.and_eq_true] at hc
      obtain ⟨hc, hs⟩ := hc
      simp only [plan] at hp
      split at hp
      · rename_i s hx
        obtain ⟨rfl, rfl⟩ := ok_inj hp
        refine tri_pure (m := .mv x) ?_
        intro e a hn ht
        subst hn
        have h1 := RV_arg (ρ := ρ) ht hc
        rw [hx] at h1
        have hargs : args = #[y] := Array.toList_inj.1 ha
        subst hargs
        exact ⟨.int .i64 s.size, fun w => by simp [execOp, hop, resolve, invoke, builtin, Builtin.len_, htys, run_underlying' (isStr_some hs), RV_str h1, goInt], by simp [RV]⟩
      · simp at hp
    · simp at hc
  · simp at hc

theorem tri_len {x : Arg} (hc : chkOp P num (.len x) o.op = true) (hp : plan ρ h nx (.len x) = some (p, v, fp, nx')) : TriR P num o ρ v fp := by
  simp only [chkOp] at hc
  split at hc
  · rename_i args tys hop
    split at hc
    · rename_i y t ha htys
      simp only [Bool.and_eq_true] at hc
      obtain ⟨hc, hs⟩ := hc
      obtain ⟨el, hel⟩ := Option.isSome_iff_exists.1 hs
      have hargs : args = #[y] := Array.toList_inj.1 ha
      subst hargs
      have key : ∀ (a : Act) (w : World) (A : Option Addr) (l c : Nat), a.eval y = .slice A l c → (execOp a.eval o).run P w = .ok (.value (.int .i64 l)) w := by
        intro a w A l c hv
        simp [execOp, hop, resolve, invoke, builtin, Builtin.len_, htys, run_underlying' (elemOf_some hel), hv, goInt]
      simp only [plan] at hp
      split at hp
      · rename_i hx
        obtain ⟨rfl, rfl⟩ := ok_inj hp
        refine tri_pure (m := .mv x) ?_
        intro e a hn ht
        subst hn
        have h1 := RV_arg (ρ := ρ) ht hc
        rw [hx] at h1
        simp only [RV] at h1
        exact ⟨.int .i64 0, fun w => key a w _ _ _ h1.1, by simp [RV]⟩
      · rename_i nm off l hx
        cases hl : look h nm with
        | none => simp [hl] at hp
        | some row =>
          simp only [hl, Option.map_some, Option.some.injEq, Prod.mk.injEq] at hp
          obtain ⟨_, rfl, rfl, _⟩ := hp
          refine tri_read1 ?_
          intro e L0 H Lf a hn hk hr ht
          subst hn
          have h1 := RV_arg (ρ := ρ) ht hc
          rw [hx] at h1
          simp only [RV] at h1
          obtain ⟨_, h1⟩ := h1
          unfold RowAt RowSp at hr
          cases hq : e.φ nm with
          | dead => rw [hq] at hr; exact hr.elim
          | nilp =>
            rw [hq] at h1
            obtain ⟨_, h2, _, h3⟩ := h1
            subst h2
            exact ⟨.int .i64 0, fun w => key a w _ _ _ h3, by simp [RV]⟩
          | «at» q =>
            rw [hq] at h1
            obtain ⟨_, A, h3, _⟩ := h1
            exact ⟨.int .i64 l, fun w => key a w _ _ _ h3, by simp [RV]⟩
      · rename_i sz rows hx
        obtain ⟨rfl, rfl⟩ := ok_inj hp
        refine tri_pure (m := .mv x) ?_
        intro e a hn ht
        subst hn
        have h1 := RV_arg (ρ := ρ) ht hc
        rw [hx] at h1
        simp only [RV] at h1
        refine ⟨.int .i64 rows.length, ?_, by simp [RV]⟩
        rcases h1.2 with ⟨rfl, A, c, h2, _⟩ | ⟨b, o', c, h2, _⟩
        · exact fun w => key a w _ _ _ h2
        · exact fun w => key a w _ _ _ h2
      · rename_i sz rows hx
        obtain ⟨rfl, rfl⟩ := ok_inj hp
        refine tri_pure (m := .mv x) ?_
        intro e a hn ht
        subst hn
        have h1 := RV_arg (ρ := ρ) ht hc
        rw [hx] at h1
        simp only [RV] at h1
        refine ⟨.int .i64 rows.length, ?_, by simp [RV]⟩
        rcases h1.2 with ⟨rfl, A, c, h2, _⟩ | ⟨b, o', c, h2, _⟩
        · exact fun w => key a w _ _ _ h2
        · exact fun w => key a w _ _ _ h2
      · simp at hp
    · simp at hc
  · simp at hc

theorem tri_mx {x z : Arg} (hc : chkOp P num (.mx x z) o.op = true) (hp : plan ρ h nx (.mx x z) = some (p, v, fp, nx')) : TriR P num o ρ v fp := by
  simp only [chkOp] at hc
  split at hc
  · rename_i args tys hop
    split at hc
    · rename_i y u ha
      simp only [Bool.and_eq_true] at hc
      obtain ⟨hc, hs⟩ := hc
      have hargs : args = #[y, u] := Array.toList_inj.1 ha
      subst hargs
      simp only [plan] at hp
      split at hp
      · rename_i k m k' n hx hz
        split at hp
        · rename_i hk
          subst hk
          obtain ⟨rfl, rfl⟩ := ok_inj hp
          refine tri_pure (m := .mv x) ?_
          intro e a hn ht
          subst hn
          have h1 := RV_arg (ρ := ρ) ht hc
          rw [hx] at h1
          have h2 := RV_arg (ρ := ρ) ht hs
          rw [hz] at h2
          exact ⟨.int k (if n > m then n else m), fun w => by simp [execOp, hop, resolve, invoke, builtin, Builtin.max_, Builtin.max2, RV_int h1, RV_int h2], by simp [RV]⟩
        · simp at hp
      · simp at hp
    · simp at hc
  · simp at hc

theorem tri_idx {x z : Arg} (hc : chkOp P num (.idx x z) o.op = true) (hp : plan ρ h nx (.idx x z) = some (p, v, fp, nx')) (hpp : p) : TriR P num o ρ v fp := by
  simp only [chkOp] at hc
  split at hc
  · rename_i t y u hop
    simp only [Bool.and_eq_true] at hc
    obtain ⟨⟨h1, h2⟩, h3⟩ := hc
    simp only [plan] at hp
    split at hp
    · rename_i s k j hx hz
      simp only [Option.some.injEq, Prod.mk.injEq] at hp
      obtain ⟨rfl, rfl, rfl, _⟩ := hp
      obtain ⟨p1, p2⟩ := hpp
      refine tri_pure (m := .mv x) ?_
      intro e a hn ht
      subst hn
      have g1 := RV_arg (ρ := ρ) ht h1
      rw [hx] at g1
      have g2 := RV_arg (ρ := ρ) ht h2
      rw [hz] at g2
      have hj : j.toNat < s.size := by omega
      have hs : s[j.toNat]? = some s[j.toNat] := by simp [hj]
      refine ⟨.int .u8 ((s.data.getD j.toNat 0).toNat : Nat), ?_, by simp [RV]⟩
      have hd : s.data.getD j.toNat 0 = s[j.toNat] := by
        unfold Array.getD
        rw [dif_pos (show j.toNat < s.data.size from hj)]
        rfl
      rw [hd]
      intro w
      simp [execOp, hop, RV_str g1, RV_int g2, Instr.index, asIntOf, run_underlying' (isStr_some h3), p1, hs]
    · simp at hp
  · simp at hc

theorem tri_eqB {neg : Bool} {x z : Arg} (hc : chkOp P num (.eqB neg x z) o.op = true) (hp : plan ρ h nx (.eqB neg x z) = some (p, v, fp, nx')) : TriR P num o ρ v fp := by
  simp only [chkOp] at hc
  split at hc
  · rename_i b t y u _ hop
    simp only [Bool.and_eq_true] at hc
    obtain ⟨⟨⟨h0, h1⟩, h2⟩, h3⟩ := hc
    simp only [plan] at hp
    split at hp
    · rename_i c d hx hz
      obtain ⟨rfl, rfl⟩ := ok_inj hp
      refine tri_pure (m := .mv x) ?_
      intro e a hn ht
      subst hn
      have g1 := RV_arg (ρ := ρ) ht h1
      rw [hx] at g1
      have g2 := RV_arg (ρ := ρ) ht h2
      rw [hz] at g2
      refine ⟨.bool (if neg then !(c == d) else c == d), ?_, by simp [RV]⟩
      have he : ∀ w, (Op.equal t (.bool c) (.bool d)).run P w = .ok (c == d) w := by
        intro w
        unfold Op.equal Op.maxDepth Op.equalIn
        simp [run_underlying' (isBool_some h3)]
      intro w
      cases neg
      · simp at h0
        subst h0
        simp [execOp, hop, RV_bool g1, RV_bool g2, eqGuard, binOp, he]
      · simp at h0
        subst h0
        simp [execOp, hop, RV_bool g1, RV_bool g2, eqGuard, binOp, he]
    · simp at hp
  · simp at hc

theorem isIface_some {t : TypeId} (h : isIface P t = true) : ∃ ms, P.underlying t = some (.interface ms) := by
  unfold isIface at h
  split at h
  · exact ⟨_, by assumption⟩
  · simp at h

theorem tri_neNil {x : Arg} (hc : chkOp P num (.neNil x) o.op = true) (hp : plan ρ h nx (.neNil x) = some (p, v, fp, nx')) : TriR P num o ρ v fp := by
  simp only [chkOp] at hc
  split at hc
  · rename_i t y _ hop
    simp only [Bool.and_eq_true] at hc
    obtain ⟨h1, h3⟩ := hc
    obtain ⟨ms, h3⟩ := isIface_some h3
    simp only [plan] at hp
    split at hp
    · rename_i hx
      obtain ⟨rfl, rfl⟩ := ok_inj hp
      refine tri_pure (m := .mv x) ?_
      intro e a hn ht
      subst hn
      have g1 := RV_arg (ρ := ρ) ht h1
      rw [hx] at g1
      simp only [RV] at g1
      refine ⟨.bool false, ?_, by simp [RV]⟩
      have he : ∀ w, (Op.equal t .nilIface .nilIface).run P w = .ok true w := by
        intro w
        unfold Op.equal Op.maxDepth Op.equalIn
        simp [run_underlying' h3]
      have hk : a.eval (.const .nilIface) = .nilIface := rfl
      intro w
      simp [execOp, hop, g1.1, hk, eqGuard, binOp, he]
    · rename_i hx
      obtain ⟨rfl, rfl⟩ := ok_inj hp
      refine tri_pure (m := .mv x) ?_
      intro e a hn ht
      subst hn
      have g1 := RV_arg (ρ := ρ) ht h1
      rw [hx] at g1
      simp only [RV] at g1
      obtain ⟨⟨t', u', g1⟩, _⟩ := g1
      refine ⟨.bool true, ?_, by simp [RV]⟩
      have he : ∀ w, (Op.equal t (.iface t' u') .nilIface).run P w = .ok false w := by
        intro w
        unfold Op.equal Op.maxDepth Op.equalIn
        simp [run_underlying' h3]
      have hk : a.eval (.const .nilIface) = .nilIface := rfl
      intro w
      simp [execOp, hop, g1, hk, eqGuard, binOp, he]
    · simp at hp
  · simp at hc

end
end Go.Sep

/- Operations that turn no row, the rest. -/
namespace Go.Sep
set_option linter.unusedVariables false
set_option linter.unusedSimpArgs false

section
variable {P : Program} {num : Nat → Nat} {o : Oper} {ρ : Nat → AV} {h : Heap} {nx nx' : Nat} {p : Prop} {v : AV} {fp : FP}

/-- The model's value of a plain symbolic one. -/
def vOf : AV → Value
  | .int k n => .int k n
  | .bool b => .bool b
  | .str s => .string s
  | _ => undef

theorem run_binInt {w : World} {op : BinOp} {t : TypeId} {k k' : IntKind} {a b : Int} {v : AV} (h : binA op (.int k a) (.int k' b) = some (p, v)) (hp : p) :
    (binOp op t (.int k a) (.int k' b)).run P w = .ok (vOf v) w ∧ ∀ e, RV e v (vOf v) [] := by
  by_cases hk : k = k'
  case neg =>
    simp only [binA, if_neg hk, shiftA] at h
    cases op <;> simp only [Option.some.injEq, Prod.mk.injEq, reduceCtorEq] at h <;> obtain ⟨hq, rfl⟩ := h <;> refine ⟨?_, fun e => by simp only [vOf, RV, and_self]⟩
    case shl => subst hq; simp [vOf, binOp, Op.shift, bShl, bShr, show ¬ b < 0 by omega]
    case shr => subst hq; simp [vOf, binOp, Op.shift, bShl, bShr, show ¬ b < 0 by omega]
  subst hk
  simp only [binA, if_true] at h
  cases op <;> simp only [Option.some.injEq, Prod.mk.injEq, reduceCtorEq] at h <;> obtain ⟨hq, rfl⟩ := h <;> refine ⟨?_, fun e => by simp only [vOf, RV, and_self]⟩
  case quo => subst hq; simp [vOf, binOp, Op.intDiv, show ¬ b = 0 from hp]
  case rem => subst hq; simp [vOf, binOp, Op.intDiv, show ¬ b = 0 from hp]
  case shl => subst hq; simp [vOf, binOp, Op.shift, bShl, bShr, show ¬ b < 0 by omega]
  case shr => subst hq; simp [vOf, binOp, Op.shift, bShl, bShr, show ¬ b < 0 by omega]
  case eql => simp [vOf, binOp, Op.intCmp]; rfl
  case neq => simp [vOf, binOp, Op.intCmp]; rfl
  all_goals simp [vOf, binOp, Op.intArith, Op.intBits, Op.intCmp, bAnd, bOr, bXor]

theorem toList_eq {a b : ByteArray} : (a.toList == b.toList) = decide (a = b) := by
  rw [Bool.eq_iff_iff]
  simp only [beq_iff_eq, decide_eq_true_eq]
  constructor
  · intro h
    rw [Go.ByteArray.toList_eq, Go.ByteArray.toList_eq] at h
    have := Array.toList_inj.1 h
    cases a; cases b; simp_all
  · intro h; rw [h]

theorem run_binStr {w : World} {op : BinOp} {t : TypeId} {a b : ByteArray} {v : AV} (h : binA op (.str a) (.str b) = some (p, v)) (hp : p) :
    (binOp op t (.string a) (.string b)).run P w = .ok (vOf v) w ∧ ∀ e, RV e v (vOf v) [] := by
  simp only [binA] at h
  cases op <;> simp only [Option.some.injEq, Prod.mk.injEq, reduceCtorEq] at h <;> obtain ⟨hq, rfl⟩ := h <;> refine ⟨?_, fun e => by simp only [vOf, RV, and_self]⟩
  case add =>
    subst hq
    have : ¬ (((a.size + b.size : Nat) : Int) > IntKind.i64.max) := by
      have : IntKind.i64.max = 9223372036854775807 := by decide
      rw [this]; omega
    simp only [binOp, Op.stringOp, if_neg this, Sem.run_pure, vOf]
  case eql => simp only [binOp, Op.stringOp, toList_eq, Sem.run_pure, vOf]
  case neq => simp only [binOp, Op.stringOp, toList_eq, Sem.run_pure, vOf]

theorem binA_shape {op : BinOp} {x y v : AV} (h : binA op x y = some (p, v)) : (∃ k k' a b, x = .int k a ∧ y = .int k' b) ∨ ∃ a b, x = .str a ∧ y = .str b := by
  unfold binA at h
  split at h
  · exact .inl ⟨_, _, _, _, rfl, rfl⟩
  · exact .inr ⟨_, _, rfl, rfl⟩
  · simp at h

theorem tri_bin {b : BinOp} {x z : Arg} (hc : chkOp P num (.bin b x z) o.op = true) (hp : plan ρ h nx (.bin b x z) = some (p, v, fp, nx')) (hpp : p) : TriR P num o ρ v fp := by
  simp only [chkOp] at hc
  split at hc
  · rename_i b' t y u _ hop
    simp only [Bool.and_eq_true, beq_iff_eq] at hc
    obtain ⟨⟨rfl, h1⟩, h2⟩ := hc
    simp only [plan] at hp
    cases hb : binA b (x.ev ρ) (z.ev ρ) with
    | none => simp [hb] at hp
    | some r =>
      obtain ⟨q, r⟩ := r
      simp only [hb, Option.map_some, Option.some.injEq, Prod.mk.injEq] at hp
      obtain ⟨rfl, rfl, rfl, _⟩ := hp
      refine tri_pure (m := .mv x) ?_
      intro e a hn ht
      subst hn
      have g1 := RV_arg (ρ := ρ) ht h1
      have g2 := RV_arg (ρ := ρ) ht h2
      rcases binA_shape hb with ⟨k, k', m, n, e1, e2⟩ | ⟨m, n, e1, e2⟩
      · rw [e1, e2] at hb
        rw [e1] at g1; rw [e2] at g2
        have hr := fun w => (run_binInt (P := P) (w := w) (t := t) hb hpp).1
        have hv := (run_binInt (P := P) (w := e.w) (t := t) hb hpp).2
        refine ⟨_, ?_, hv e⟩
        intro w
        simp only [execOp, hop, RV_int g1, RV_int g2, eqGuard, Sem.run_bind]
        cases b <;> simp [hr]
      · rw [e1, e2] at hb
        rw [e1] at g1; rw [e2] at g2
        have hr := fun w => (run_binStr (P := P) (w := w) (t := t) hb hpp).1
        have hv := (run_binStr (P := P) (w := e.w) (t := t) hb hpp).2
        refine ⟨_, ?_, hv e⟩
        intro w
        simp only [execOp, hop, RV_str g1, RV_str g2, eqGuard, Sem.run_bind]
        cases b <;> simp [hr]
  · simp at hc

theorem run_sliceBound {w : World} {k : IntKind} {n : Int} {y : Nat} {c : BoundsCode} (h : 0 ≤ n ∧ n ≤ y) : (Instr.sliceBound (.int k n) y c).run P w = .ok n.toNat w := by
  simp [Instr.sliceBound, asIntOf, h]

/-- A cut's bounds. -/
theorem run_sliceBounds {e : Env} {a : Act} {w : World} {isS : Bool} {len cap : Nat} {lo hi : Option Arg} {lo' hi' : Option Operand} {l m : Int}
    (ht : ∀ t, RV e (ρ t) (a.tmps.getD t undef) []) (h1 : chkO e.num lo' lo = true) (h2 : chkO e.num hi' hi = true) (hl : bnd? ρ 0 lo = some l) (hh : bnd? ρ len hi = some m)
    (b1 : 0 ≤ l) (b2 : l ≤ m) (b3 : m ≤ len) (b4 : len ≤ cap) :
    (Instr.sliceBounds isS len cap (lo'.map a.eval) (hi'.map a.eval) none).run P w = .ok (l.toNat, m.toNat, cap) w := by
  have key : ∀ {x : Option Arg} {x' : Option Operand} {d : Int} {n : Int}, chkO e.num x' x = true → bnd? ρ d x = some n → (x' = none ∧ n = d) ∨ ∃ y k, x' = some y ∧ a.eval y = .int k n := by
    intro x x' d n hc hb
    cases x with
    | none =>
      cases x' with
      | none => simp [bnd?] at hb; exact .inl ⟨rfl, hb.symm⟩
      | some y => simp [chkO] at hc
    | some z =>
      cases x' with
      | none => simp [chkO] at hc
      | some y =>
        simp only [chkO] at hc
        simp only [bnd?] at hb
        have g := RV_arg (ρ := ρ) ht hc
        split at hb
        · rename_i k q hq
          simp at hb
          subst hb
          rw [hq] at g
          exact .inr ⟨y, k, rfl, RV_int g⟩
        · simp at hb
  have hlo : ∀ w', (match lo'.map a.eval with
      | some v => Instr.sliceBound v m.toNat .sliceB
      | none => pure 0).run P w' = .ok l.toNat w' := by
    intro w'
    rcases key h1 hl with ⟨rfl, h3⟩ | ⟨y, k, rfl, h3⟩
    · simp [h3]
    · simp only [Option.map_some, h3]
      exact run_sliceBound ⟨by omega, by omega⟩
  have hlo' : ∀ w', (match lo'.map a.eval with
      | some v => do
        let l ← Instr.sliceBound v m.toNat .sliceB
        pure (l, m.toNat, cap)
      | none => do
        let l ← pure 0
        pure (l, m.toNat, cap)).run P w' = .ok (l.toNat, m.toNat, cap) w' := by
    intro w'
    have := hlo w'
    cases hx : lo'.map a.eval with
    | none => rw [hx] at this; simp at this; simp [this]
    | some v => rw [hx] at this; simp only at this; simp [this]
  unfold Instr.sliceBounds
  simp only [Sem.run_bind, Sem.run_pure, Result.andThen_ok, Option.isSome_none, Bool.false_eq_true, if_false]
  rcases key h2 hh with ⟨rfl, h3⟩ | ⟨y, k, rfl, h3⟩
  · subst h3
    simp only [Option.map_none, Sem.run_bind, Sem.run_pure, Result.andThen_ok]
    exact hlo' w
  · simp only [Option.map_some, h3, Sem.run_bind]
    rw [run_sliceBound ⟨by omega, by omega⟩]
    exact hlo' w

theorem tri_cutS {x : Arg} {lo hi : Option Arg} (hc : chkOp P num (.cutS x lo hi) o.op = true) (hp : plan ρ h nx (.cutS x lo hi) = some (p, v, fp, nx')) (hpp : p) : TriR P num o ρ v fp := by
  simp only [chkOp] at hc
  split at hc
  · rename_i t y l' h' hop
    simp only [Bool.and_eq_true] at hc
    obtain ⟨⟨⟨h1, h2⟩, h3⟩, h4⟩ := hc
    simp only [plan] at hp
    cases hl : bnd? ρ 0 lo with
    | none => simp [hl] at hp
    | some l =>
      simp only [hl, Option.bind_some] at hp
      split at hp
      · rename_i s hx
        cases hh : bnd? ρ s.size hi with
        | none => simp [hh] at hp
        | some m =>
          simp only [hh, Option.map_some, Option.some.injEq, Prod.mk.injEq] at hp
          obtain ⟨rfl, rfl, rfl, _⟩ := hp
          obtain ⟨p1, p2, p3⟩ := hpp
          refine tri_pure (m := .mv x) ?_
          intro e a hn ht
          subst hn
          have g1 := RV_arg (ρ := ρ) ht h1
          rw [hx] at g1
          refine ⟨.string (s.extract l.toNat m.toNat), ?_, by simp [RV]⟩
          intro w
          simp only [execOp, hop, RV_str g1, Sem.run_bind, Instr.sliceAt, run_underlying' (isStr_some h4), Result.andThen_ok, Instr.slice, Option.map_none, Option.isSome_none, Bool.false_eq_true, if_false]
          rw [run_sliceBounds (isS := false) ht h2 h3 hl hh p1 p2 p3 (Nat.le_refl _)]
          simp
      · simp at hp
  · simp at hc

end
end Go.Sep

/- Operations that turn no row: fields, structs, cuts, places. -/
namespace Go.Sep
set_option linter.unusedVariables false
set_option linter.unusedSimpArgs false

section
variable {P : Program} {num : Nat → Nat} {o : Oper} {ρ : Nat → AV} {h : Heap} {nx nx' : Nat} {p : Prop} {v : AV} {fp : FP}

theorem nil_of_append {a b : List Nat} (h : [] = a ++ b) : a = [] ∧ b = [] := by
  have := h.symm
  simpa using this

theorem RVs_take_drop {e : Env} {cs : List AV} {vs : List Value} (n : Nat) (h : RVs e cs vs []) : RVs e (cs.take n) (vs.take n) [] ∧ RVs e (cs.drop n) (vs.drop n) [] := by
  have hl := RVs_length h
  by_cases hn : n ≤ cs.length
  · rw [← List.take_append_drop n cs] at h
    obtain ⟨c1, c2, L1, L2, h1, h2, h3, h4⟩ := (RVs_append _ _).1 h
    obtain ⟨rfl, rfl⟩ := nil_of_append h2
    have h5 := RVs_length h3
    rw [List.length_take, Nat.min_eq_left hn] at h5
    subst h1
    rw [List.take_left' h5, List.drop_left' h5]
    exact ⟨h3, h4⟩
  · rw [List.take_of_length_le (by omega), List.take_of_length_le (by omega), List.drop_of_length_le (by omega), List.drop_of_length_le (by omega)]
    exact ⟨h, by simp [RVs]⟩
theorem RVs_take {e : Env} {cs : List AV} {vs : List Value} (n : Nat) (h : RVs e cs vs []) : RVs e (cs.take n) (vs.take n) [] := (RVs_take_drop n h).1
theorem RVs_drop {e : Env} {cs : List AV} {vs : List Value} (n : Nat) (h : RVs e cs vs []) : RVs e (cs.drop n) (vs.drop n) [] := (RVs_take_drop n h).2

theorem run_part {w : World} {t : TypeId} {cs : List Value} {off n : Nat} {ag : Bool} {i : TypeInfo} (hag : aggB P t = some ag) (hi : P.info? t = some i) (hn : i.size = n) (h1 : ag = true ∨ n = 1) (hl : off + n ≤ cs.length) :
    (part t cs.toArray off).run P w = .ok (if ag then .agg ((cs.drop off).take n).toArray else cs.getD off undef) w := by
  subst hn
  unfold part
  simp only [Sem.run_bind, run_isAgg hag, Result.andThen_ok]
  cases ag with
  | true => simp [run_sizeOf' hi]
  | false =>
    simp at h1
    have : off < cs.length := by omega
    simp [this]

theorem tri_fld {off n : Nat} {ag : Bool} {x : Arg} (hc : chkOp P num (.fld off n ag x) o.op = true) (hp : plan ρ h nx (.fld off n ag x) = some (p, v, fp, nx')) (hpp : p) : TriR P num o ρ v fp := by
  simp only [chkOp] at hc
  split at hc
  · rename_i t y f hop
    simp only [Bool.and_eq_true] at hc
    obtain ⟨hc, h5⟩ := hc
    cases hfs : fieldsOf P t with
    | none => simp [hfs] at h5
    | some fs =>
      simp only [hfs] at h5
      cases hg : fs[f]? with
      | none => simp [hg] at h5
      | some g =>
        simp only [hg, Bool.and_eq_true, beq_iff_eq, Bool.or_eq_true] at h5
        obtain ⟨⟨⟨h6, h7⟩, h8⟩, h9⟩ := h5
        obtain ⟨i, hi, hin⟩ := sizeIs_some h7
        simp only [plan] at hp
        split at hp
        · rename_i cs hx
          simp only [Option.some.injEq, Prod.mk.injEq] at hp
          obtain ⟨rfl, rfl, rfl, _⟩ := hp
          refine tri_pure (m := .mv x) ?_
          intro e a hn ht
          subst hn
          have g1 := RV_arg (ρ := ρ) ht hc
          rw [hx] at g1
          simp only [RV] at g1
          obtain ⟨vs, g1, g2⟩ := g1
          have hl := RVs_length g2
          refine ⟨if ag then .agg ((vs.drop off).take n).toArray else vs.getD off undef, ?_, ?_⟩
          · intro w
            simp only [execOp, hop, g1, Sem.run_bind, Instr.field, run_underlying' (fieldsOf_some hfs), Result.andThen_ok, hg, asAgg, Sem.run_pure]
            rw [h6, run_part h8 hi hin h9 (by omega)]
            rfl
          · cases ag with
            | true =>
              simp only [if_true, RV]
              exact ⟨_, rfl, RVs_take n (RVs_drop off g2)⟩
            | false =>
              simp at h9
              subst h9
              obtain ⟨c, h10, h11⟩ := RVs_nil_get g2 off (by omega)
              simp only [Bool.false_eq_true, if_false]
              have e1 : vs.getD off undef = c := by simp [List.getD_eq_getElem?_getD, h10]
              have e2 : cs.getD off .any = cs[off]'(by omega) := by
                have : off < cs.length := by omega
                simp [List.getD_eq_getElem?_getD, this]
              rw [e1, e2]
              exact h11
        · simp at hp
  · simp at hc

theorem cell_value {e : Env} {v : AV} {c : Value} {L : List Nat} (hv : cellOk v = true) (h : RV e v c L) : c.oneCell' = true := by
  cases v
  case sl m sz rows =>
    cases m <;> simp only [RV] at h
    · rcases h with ⟨_, _, _, rfl⟩ | ⟨p, Lr, _, rfl, _⟩ <;> rfl
    · rcases h.2 with ⟨_, a, c, rfl, _⟩ | ⟨b, o, c, rfl, _⟩ <;> rfl
    · rcases h.2 with ⟨_, a, c, rfl, _⟩ | ⟨b, o, c, rfl, _⟩ <;> rfl
  case any => simp [cellOk] at hv
  case agg => simp [cellOk] at hv
  case tup => simp [cellOk] at hv
  all_goals simp only [RV] at h
  case int => obtain ⟨rfl, _⟩ := h; rfl
  case bool => obtain ⟨rfl, _⟩ := h; rfl
  case str => obtain ⟨rfl, _⟩ := h; rfl
  case fn => obtain ⟨vs, rfl, _⟩ := h; rfl
  case nilp => obtain ⟨rfl, _⟩ := h; rfl
  case ptr nm i f =>
    obtain ⟨_, h⟩ := h
    cases hq : e.φ nm <;> rw [hq] at h
    · obtain ⟨a, rfl⟩ := h; rfl
    · exact h.elim
    · subst h; rfl
  case fptr => obtain ⟨_, b, o, vs, rfl, _⟩ := h; rfl
  case nil => obtain ⟨rfl, _⟩ := h; rfl
  case nilI => obtain ⟨rfl, _⟩ := h; rfl
  case ifc => obtain ⟨⟨t, u, rfl⟩, _⟩ := h; rfl
  case ns nm off len =>
    obtain ⟨_, h⟩ := h
    cases hq : e.φ nm <;> rw [hq] at h
    · obtain ⟨a, l, c, rfl⟩ := h; rfl
    · obtain ⟨_, _, _, rfl⟩ := h; rfl
    · obtain ⟨_, a, rfl, _⟩ := h; rfl

theorem cells_value {e : Env} {v : AV} {c : Value} (hv : (cellsOf v).all cellOk = true) (h : RV e v c []) : RVs e (cellsOf v) c.cells.toList [] := by
  cases v
  case agg cs =>
    simp only [RV] at h
    obtain ⟨vs, rfl, h⟩ := h
    simpa [cellsOf, Value.cells] using h
  all_goals
    simp only [cellsOf, List.all_cons, List.all_nil, Bool.and_true] at hv
    have hc := cell_value hv h
    have : c.cells = #[c] := by cases c <;> first | rfl | simp [Value.oneCell'] at hc
    rw [this]
    simp only [cellsOf, RVs]
    exact ⟨c, [], [], [], rfl, h, ⟨rfl, rfl⟩, rfl⟩

theorem cells_one {e : Env} : ∀ {l : List AV} {vs : List Value} {L : List Nat}, l.all cellOk = true → RVs e l vs L → ∀ u ∈ vs, u.oneCell' = true
  | [], vs, L, _, h => by simp only [RVs] at h; simp [h.1]
  | c :: l, vs, L, hl, h => by
    simp only [RVs] at h
    obtain ⟨v, vs', L1, L2, rfl, h2, h3, rfl⟩ := h
    simp only [List.all_cons, Bool.and_eq_true] at hl
    intro u hu
    rcases List.mem_cons.1 hu with rfl | hu
    · exact cell_value hl.1 h2
    · exact cells_one hl.2 h3 u hu

/-- A list some of whose places are set. -/
theorem RVs_splice {e : Env} {cs ds : List AV} {vs us : List Value} {f : Nat} (h1 : RVs e cs vs []) (h2 : RVs e ds us []) (hf : f + ds.length ≤ cs.length) :
    RVs e (splice cs f ds) (vs.take f ++ us ++ vs.drop (f + us.length)) [] := by
  unfold splice
  have hu := RVs_length h2
  rw [hu]
  refine (RVs_append _ _).2 ⟨vs.take f ++ us, vs.drop (f + ds.length), [], [], rfl, rfl, (RVs_append _ _).2 ⟨_, _, [], [], rfl, rfl, RVs_take f h1, h2⟩, RVs_drop _ h1⟩

theorem splice_length {α : Type} (cs ds : List α) (f : Nat) (hf : f + ds.length ≤ cs.length) : (cs.take f ++ ds ++ cs.drop (f + ds.length)).length = cs.length := by
  simp
  omega

theorem arrSet_list (arr : Array Value) (f : Nat) (us : List Value) (hf : f + us.length ≤ arr.size) : (arrSet arr f us).toList = arr.toList.take f ++ us ++ arr.toList.drop (f + us.length) := by
  apply List.ext_getElem?
  intro k
  rw [Array.getElem?_toList]
  by_cases h1 : k < f
  · rw [arrSet_other _ _ _ _ (.inl h1)]
    rw [List.append_assoc, List.getElem?_append_left (by simp; omega)]
    simp [h1]
  · by_cases h2 : k < f + us.length
    · obtain ⟨j, rfl⟩ : ∃ j, k = f + j := ⟨k - f, by omega⟩
      rw [arrSet_at _ _ _ _ (by omega) hf]
      have : (List.take f arr.toList).length = f := by simp; omega
      rw [List.append_assoc, List.getElem?_append_right (by omega), this, List.getElem?_append_left (by omega)]
      simp
    · rw [arrSet_other _ _ _ _ (.inr (by omega))]
      have : (List.take f arr.toList ++ us).length = f + us.length := by simp; omega
      rw [List.getElem?_append_right (by omega), this]
      simp
      congr 1
      omega

theorem fold_arrSet (vc : List Value) : ∀ (cs : Array Value) (off k : Nat), (vc.zipIdx k).foldl (fun cs (c, j) => cs.setIfInBounds (off + j) c) cs = arrSet cs (off + k) vc := by
  induction vc with
  | nil => intro cs off k; rfl
  | cons v vc ih =>
    intro cs off k
    simp only [List.zipIdx_cons, List.foldl_cons, arrSet]
    rw [ih, Nat.add_assoc]

/-- How a struct's parts are filled in. -/
theorem fill_parts {e : Env} {a : Act} {fs : Array Field} {places : Array (Nat × Nat)} (hpl : ∀ (i : Nat) (f : Field) (n : Nat), fs[i]? = some f → sizeIs P f.type n = true → places[i]? = some (f.offset, n))
    (ht : ∀ t, RV e (ρ t) (a.tmps.getD t undef) []) : ∀ (parts : List (Nat × Nat × Arg)) (ps : List (Nat × Operand)) (cs : List AV) (arr : Array Value), chkParts P e.num fs ps parts = true →
      fillOk ρ cs.length parts → RVs e cs arr.toList [] → ∃ arr', Instr.fill (places[·]?) arr (ps.map fun x => (x.1, a.eval x.2)) = some arr' ∧ RVs e (fillA ρ cs parts) arr'.toList []
  | [], ps, cs, arr, hc, _, h => by
    cases ps with
    | nil => exact ⟨arr, rfl, h⟩
    | cons => simp [chkParts] at hc
  | (off, sz, y) :: parts, ps, cs, arr, hc, hf, h => by
    cases ps with
    | nil => simp [chkParts] at hc
    | cons q ps =>
      obtain ⟨i, x⟩ := q
      simp only [chkParts, Bool.and_eq_true] at hc
      obtain ⟨⟨h1, h2⟩, h3⟩ := hc
      simp only [fillOk] at hf
      obtain ⟨⟨f1, f2, f3⟩, f4⟩ := hf
      cases hg : fs[i]? with
      | none => simp [hg] at h1
      | some f =>
        simp only [hg, Bool.and_eq_true, beq_iff_eq] at h1
        obtain ⟨rfl, h5⟩ := h1
        have g := cells_value f2 (RV_arg (ρ := ρ) ht h2)
        have gl := RVs_length g
        have hl := RVs_length h
        have hs := arrSet_list arr f.offset (a.eval x).cells.toList (by simp at gl hl ⊢; omega)
        have hr : RVs e (splice cs f.offset (cellsOf (y.ev ρ))) (arrSet arr f.offset (a.eval x).cells.toList).toList [] := by
          rw [hs]
          exact RVs_splice h g (by omega)
        have hlen : (splice cs f.offset (cellsOf (y.ev ρ))).length = cs.length := splice_length _ _ _ (by omega)
        obtain ⟨arr', h6, h7⟩ := fill_parts hpl ht parts ps _ _ h3 (by rw [hlen]; exact f4) hr
        refine ⟨arr', ?_, h7⟩
        simp only [List.map_cons, Instr.fill, hpl i f sz hg h5]
        have hsz : (a.eval x).cells.size = sz := by simp at gl; omega
        have ha : arr.size = cs.length := by simpa using hl
        have hcond : ¬ (((a.eval x).cells.size ≠ sz || f.offset + (a.eval x).cells.size > arr.size) = true) := by
          simp [hsz, ha]; omega
        rw [if_neg hcond]
        have hz : (a.eval x).cells.zipIdx.foldl (fun cs (c, j) => cs.setIfInBounds (f.offset + j) c) arr = arrSet arr f.offset (a.eval x).cells.toList := by
          rw [← Array.foldl_toList, Array.toList_zipIdx, fold_arrSet]
          simp
        rw [hz]
        exact h6

theorem run_mapM_list {α β : Type} {w : World} (g : α → Sem β) (k : α → β) : ∀ (l : List α), (∀ x ∈ l, (g x).run P w = .ok (k x) w) → (l.mapM g).run P w = .ok (l.map k) w
  | [], _ => by simp
  | x :: l, h => by
    rw [List.mapM_cons]
    simp only [Sem.run_bind, h x (by simp), Result.andThen_ok, run_mapM_list g k l (fun y hy => h y (by simp [hy])), Sem.run_pure, List.map_cons]

theorem run_mapM_array {α β : Type} {w : World} (g : α → Sem β) (k : α → β) (l : Array α) (h : ∀ x ∈ l.toList, (g x).run P w = .ok (k x) w) : (l.mapM g).run P w = .ok (l.map k) w := by
  rw [Array.mapM_eq_mapM_toList, Sem.run_map, run_mapM_list g k l.toList h]
  simp only [Result.andThen_ok]
  rw [← Array.toList_map, Array.toArray_toList]

theorem chkZero_some {t : TypeId} {zero : List AV} (h : chkZero P t zero = true) : ∃ i z, P.info? t = some i ∧ i.size = zero.length ∧ i.zero = some z ∧ chkVs zero z.cells.toList = true ∧ zero.all cellOk = true := by
  unfold chkZero at h
  cases hi : P.info? t with
  | none => simp [hi] at h
  | some i =>
    simp only [hi, Bool.and_eq_true, beq_iff_eq] at h
    cases hz : i.zero with
    | none => simp [hz] at h
    | some z =>
      simp only [hz] at h
      exact ⟨i, z, rfl, h.1.1, hz, h.2, h.1.2⟩

theorem fillA_length {l : List (Nat × Nat × Arg)} : ∀ {cs : List AV}, fillOk ρ cs.length l → (fillA ρ cs l).length = cs.length := by
  induction l with
  | nil => intro cs _; rfl
  | cons x l ih =>
    obtain ⟨off, sz, y⟩ := x
    intro cs h
    simp only [fillOk] at h
    have : (splice cs off (cellsOf (y.ev ρ))).length = cs.length := splice_length _ _ _ (by omega)
    simp only [fillA]
    rw [ih (by rw [this]; exact h.2), this]

theorem tri_build {zero : List AV} {parts : List (Nat × Nat × Arg)} (hc : chkOp P num (.build zero parts) o.op = true) (hp : plan ρ h nx (.build zero parts) = some (p, v, fp, nx')) (hpp : p) : TriR P num o ρ v fp := by
  simp only [chkOp] at hc
  split at hc
  · rename_i t ps hop
    simp only [Bool.and_eq_true] at hc
    obtain ⟨h1, h2⟩ := hc
    obtain ⟨i, z, hi, hs, hz, hzv, hzo⟩ := chkZero_some h1
    cases hfs : fieldsOf P t with
    | none => simp [hfs] at h2
    | some fs =>
      simp only [hfs, Bool.and_eq_true, List.all_eq_true] at h2
      obtain ⟨h3, h4⟩ := h2
      simp only [plan, Option.some.injEq, Prod.mk.injEq] at hp
      obtain ⟨rfl, rfl, rfl, _⟩ := hp
      refine tri_pure (m := .mv (.t 0)) ?_
      intro e a hn ht
      subst hn
      have hm : ∀ w, (fs.mapM fun (f : Field) => do pure (f.offset, ← sizeOf f.type)).run P w = .ok (fs.map fun (f : Field) => (f.offset, ((P.info? f.type).map (·.size)).getD 0)) w := by
        intro w
        refine run_mapM_array _ _ fs ?_
        intro f hf
        obtain ⟨j, hj⟩ := Option.isSome_iff_exists.1 (h3 f hf)
        simp [run_sizeOf' hj, hj]
      obtain ⟨arr', h5, h6⟩ := fill_parts (P := P) (ρ := ρ) (e := e) (a := a) (fs := fs) (places := fs.map fun (f : Field) => (f.offset, ((P.info? f.type).map (·.size)).getD 0)) (fun i f n hf hn => by
        obtain ⟨j, hj, hjn⟩ := sizeIs_some hn
        simp [hf, hj, hjn]) ht parts ps.toList zero z.cells h4 hpp (RVs_const hzv)
      refine ⟨.agg arr', ?_, ?_⟩
      · intro w
        simp only [execOp, hop, Sem.run_bind, Instr.build, run_zeroValue' hi hz, run_underlying' (fieldsOf_some hfs), Result.andThen_ok]
        rw [hm]
        simp only [Result.andThen_ok]
        have e1 : (ps.map fun (i, x) => (i, a.eval x)).toList = ps.toList.map fun x => (x.1, a.eval x.2) := by simp
        rw [e1, h5]
        rfl
      · simp only [RV]
        exact ⟨arr'.toList, by simp, h6⟩
  · simp at hc

end
end Go.Sep

/- Operations that turn no row: comparison of structs, cuts of slices, places of elements, texts of bytes. -/
namespace Go.Sep
set_option linter.unusedVariables false
set_option linter.unusedSimpArgs false

section
variable {P : Program} {num : Nat → Nat} {o : Oper} {ρ : Nat → AV} {h : Heap} {nx nx' : Nat} {p : Prop} {v : AV} {fp : FP}

theorem isInt_some {t : TypeId} (h : isInt P t = true) : ∃ k, P.underlying t = some (.int k) := by
  unfold isInt at h
  split at h
  · exact ⟨_, by assumption⟩
  · simp at h

theorem run_part_one {w : World} {t : TypeId} {cs : Array Value} {off : Nat} {c : Value} (hag : aggB P t = some false) (hc : cs[off]? = some c) : (part t cs off).run P w = .ok c w := by
  unfold part
  simp [run_isAgg hag, hc]

theorem run_eqFields {w : World} {d : Nat} {e : Env} : ∀ (ks : List Bool) (xs ys : List AV) (r : Bool) (fs : List Field) (i : Nat) (vs us : List Value) (pre pre' : List Value), eqC ks xs ys = some r → flatFields P i ks fs = true →
    RVs e xs vs [] → RVs e ys us [] → pre.length = i → pre'.length = i → (Op.eqFields (d + 1) (pre ++ vs).toArray (pre' ++ us).toArray fs).run P w = .ok r w
  | [], xs, ys, r, fs, i, vs, us, pre, pre', he, hf, h1, h2, hp, hp' => by
    cases fs with
    | cons => simp [flatFields] at hf
    | nil =>
      cases xs with
      | cons x xs => simp [eqC] at he
      | nil =>
        cases ys with
        | cons => simp [eqC] at he
        | nil =>
          simp [eqC] at he
          subst he
          simp [Op.eqFields]
  | k :: ks, xs, ys, r, fs, i, vs, us, pre, pre', he, hf, h1, h2, hp, hp' => by
    cases fs with
    | nil => simp [flatFields] at hf
    | cons f fs =>
      cases xs with
      | nil => cases k <;> simp [eqC] at he
      | cons x xs =>
        cases ys with
        | nil => cases k <;> cases x <;> simp [eqC] at he
        | cons y ys =>
          simp only [flatFields, Bool.and_eq_true, bne_iff_ne, ne_eq, beq_iff_eq] at hf
          obtain ⟨⟨⟨hn, ho⟩, ht⟩, hf⟩ := hf
          simp only [RVs] at h1 h2
          obtain ⟨v, vs', L1, L2, rfl, g1, g2, g3⟩ := h1
          obtain ⟨u, us', L3, L4, rfl, g4, g5, g6⟩ := h2
          obtain ⟨rfl, rfl⟩ := nil_of_append g3
          obtain ⟨rfl, rfl⟩ := nil_of_append g6
          have c1 : (pre ++ v :: vs').toArray[f.offset]? = some v := by simp [ho, ← hp]
          have c2 : (pre' ++ u :: us').toArray[f.offset]? = some u := by simp [ho, ← hp']
          have key : aggB P f.type = some false ∧ ∃ q r', r = (q && r') ∧ eqC ks xs ys = some r' ∧ (Op.equalIn (d + 1) f.type v u).run P w = .ok q w := by
            cases k with
            | true =>
              obtain ⟨k', hk⟩ := isInt_some ht
              refine ⟨by simp [aggB, hk], ?_⟩
              cases x with
              | int k1 a =>
                cases y with
                | int k2 b =>
                  simp only [eqC] at he
                  split at he
                  · rename_i hkk
                    subst hkk
                    cases hr : eqC ks xs ys with
                    | none => simp [hr] at he
                    | some r' =>
                      simp [hr] at he
                      refine ⟨decide (a = b), r', he.symm, rfl, ?_⟩
                      rw [RV_int g1, RV_int g4, run_equalIn_int w d f.type k1 k' a b hk]
                      rfl
                  · simp at he
                | _ => simp [eqC] at he
              | _ => cases y <;> simp [eqC] at he
            | false =>
              refine ⟨by simp [aggB, isBool_some ht], ?_⟩
              cases x with
              | bool a =>
                cases y with
                | bool b =>
                  simp only [eqC] at he
                  cases hr : eqC ks xs ys with
                  | none => simp [hr] at he
                  | some r' =>
                    simp [hr] at he
                    refine ⟨a == b, r', he.symm, rfl, ?_⟩
                    rw [RV_bool g1, RV_bool g4, run_equalIn_bool' w d f.type a b (isBool_some ht)]
                | _ => simp [eqC] at he
              | _ => cases y <;> simp [eqC] at he
          obtain ⟨hag, q, r', rfl, hr', hq⟩ := key
          simp only [Op.eqFields]
          rw [if_pos hn]
          simp only [Sem.run_bind, run_part_one hag c1, run_part_one hag c2, Result.andThen_ok, hq]
          cases q with
          | false => simp
          | true =>
            simp only [Bool.not_true, Bool.false_eq_true, if_false, Bool.true_and]
            have := run_eqFields (w := w) (d := d) ks xs ys r' fs (i + 1) vs' us' (pre ++ [v]) (pre' ++ [u]) hr' hf g2 g5 (by simp [hp]) (by simp [hp'])
            simpa using this

theorem tri_eqS {neg : Bool} {ks : List Bool} {x z : Arg} (hc : chkOp P num (.eqS neg ks x z) o.op = true) (hp : plan ρ h nx (.eqS neg ks x z) = some (p, v, fp, nx')) : TriR P num o ρ v fp := by
  simp only [chkOp] at hc
  split at hc
  · rename_i b t y u _ hop
    simp only [Bool.and_eq_true] at hc
    obtain ⟨⟨⟨h0, h1⟩, h2⟩, h3⟩ := hc
    cases hfs : fieldsOf P t with
    | none => simp [hfs] at h3
    | some fs =>
      simp only [hfs, Bool.and_eq_true, Bool.not_eq_true'] at h3
      obtain ⟨⟨h4, h5⟩, h6⟩ := h3
      simp only [plan] at hp
      split at hp
      · rename_i xs ys hx hz
        cases hr : eqC ks xs ys with
        | none => simp [hr] at hp
        | some r =>
          simp only [hr, Option.map_some, Option.some.injEq, Prod.mk.injEq] at hp
          obtain ⟨rfl, rfl, rfl, _⟩ := hp
          refine tri_pure (m := .mv x) ?_
          intro e a hn ht
          subst hn
          have g1 := RV_arg (ρ := ρ) ht h1
          rw [hx] at g1
          have g2 := RV_arg (ρ := ρ) ht h2
          rw [hz] at g2
          simp only [RV] at g1 g2
          obtain ⟨vs, g1, g3⟩ := g1
          obtain ⟨us, g2, g4⟩ := g2
          have hu := fieldsOf_some hfs
          have hpf : P.fieldsOf t = fs := by simp [Program.fieldsOf, hu]
          have key : ∀ w, (Op.equalIn 10000 t (.agg vs.toArray) (.agg us.toArray)).run P w = .ok r w := by
            intro w
            rw [run_equalIn_agg w 9999 t vs.toArray us.toArray (by rw [hpf]; exact hu) h5, hpf]
            simpa using run_eqFields (w := w) (d := 9998) (e := e) ks xs ys r fs.toList 0 vs us [] [] hr h4 g3 g4 rfl rfl
          refine ⟨.bool (if neg then !r else r), ?_, by simp [RV]⟩
          intro w
          cases neg
          · simp at h0
            subst h0
            simp only [execOp, hop, g1, g2, Sem.run_bind, run_eqGuard_agg w .eql t y u vs.toArray us.toArray h6, Result.andThen_ok, run_eql_struct, key]
            rfl
          · simp at h0
            subst h0
            simp only [execOp, hop, g1, g2, Sem.run_bind, run_eqGuard_agg w .neq t y u vs.toArray us.toArray h6, Result.andThen_ok, run_neq_struct, key]
            rfl
      · simp at hp
  · simp at hc

/-- A named row that is there, and a slice of it. -/
theorem ns_at {e : Env} {nm off len : Nat} {row : Row} {L L' : List Nat} {c : Value} (hr : RowAt e nm row L) (h : RV e (.ns nm off len) c L') :
    (e.φ nm = .nilp ∧ row.2 = [] ∧ off = 0 ∧ len = 0 ∧ ∃ a, c = .slice a 0 0) ∨
    ∃ q a Lr, e.φ nm = .at q ∧ q.sz = row.1 ∧ OwnBlk e.w q row.2.length ∧ RRows e e.w q.block q.off q.sz row.2 Lr ∧ L = q.block :: Lr ∧ off + len ≤ q.cap ∧
      c = .slice (some a) len (q.cap - off) ∧ (off < q.cap → a = ⟨q.block, q.off + off * q.sz, none⟩) := by
  simp only [RV] at h
  obtain ⟨_, h⟩ := h
  unfold RowAt RowSp at hr
  cases hq : e.φ nm with
  | dead => rw [hq] at hr; exact hr.elim
  | nilp => rw [hq] at hr h; exact .inl ⟨rfl, hr.1, h⟩
  | «at» q =>
    rw [hq] at hr h
    obtain ⟨h1, h2, Lr, h3, h4⟩ := hr
    obtain ⟨h5, a, h6, h7⟩ := h
    exact .inr ⟨q, a, Lr, rfl, h1, h2, h3, h4, h5, h6, h7⟩

theorem tri_iad {sz : Nat} {x z : Arg} (hc : chkOp P num (.iad sz x z) o.op = true) (hp : plan ρ h nx (.iad sz x z) = some (p, v, fp, nx')) (hpp : p) : TriR P num o ρ v fp := by
  simp only [chkOp] at hc
  split at hc
  · rename_i t y u hop
    simp only [Bool.and_eq_true] at hc
    obtain ⟨⟨h1, h2⟩, h3⟩ := hc
    cases hel : elemOf? P t with
    | none => simp [hel] at h3
    | some el =>
      simp only [hel] at h3
      obtain ⟨i, hi, hs⟩ := sizeIs_some h3
      have hu := elemOf_some hel
      have key : ∀ (a : Act) (w : World) (A : Addr) (l c : Nat) (k : IntKind) (j : Int), a.eval y = .slice (some A) l c → a.eval u = .int k j → 0 ≤ j → j < l →
          (execOp a.eval o).run P w = .ok (.value (.pointer (some (A.add (j.toNat * sz))))) w := by
        intro a w A l c k j e1 e2 h4 h5
        simp [execOp, hop, e1, e2, Instr.indexAt, asIntOf, run_underlying' hu, h4, h5, run_sizeOf' hi, hs]
      simp only [plan] at hp
      split at hp
      · rename_i nm off len k j hx hz
        cases hl : look h nm with
        | none => simp [hl] at hp
        | some row =>
          simp only [hl, Option.map_some, Option.some.injEq, Prod.mk.injEq] at hp
          obtain ⟨rfl, rfl, rfl, _⟩ := hp
          obtain ⟨p1, p2, p3, p4⟩ := hpp
          refine tri_read1 ?_
          intro e L0 H Lf a hn hk hr ht
          subst hn
          have g1 := RV_arg (ρ := ρ) ht h1
          rw [hx] at g1
          have g2 := RV_arg (ρ := ρ) ht h2
          rw [hz] at g2
          rcases ns_at hr g1 with ⟨_, _, _, rfl, _⟩ | ⟨q, A, Lr, hq, q1, q2, q3, q4, q5, q6, q7⟩
          · omega
          · have hA := q7 (by omega)
            refine ⟨_, fun w => key a w A len _ k j q6 (RV_int g2) p3 p4, ?_⟩
            rw [hA, add_mk]
            have : q.off + off * q.sz + j.toNat * sz = q.off + (off + j.toNat) * q.sz + 0 := by
              rw [q1, p1, Nat.add_mul]; omega
            rw [this]
            exact RV_ptr hq
      · rename_i s rows k j hx hz
        simp only [Option.some.injEq, Prod.mk.injEq] at hp
        obtain ⟨rfl, rfl, rfl, _⟩ := hp
        obtain ⟨p1, p3, p4⟩ := hpp
        refine tri_pure (m := .mv x) ?_
        intro e a hn ht
        subst hn
        have g1 := RV_arg (ρ := ρ) ht h1
        rw [hx] at g1
        have g2 := RV_arg (ρ := ρ) ht h2
        rw [hz] at g2
        simp only [RV] at g1
        rcases g1.2 with ⟨rfl, _⟩ | ⟨b, o', c, q1, q2, q3, q4⟩
        · simp at p4; omega
        · obtain ⟨vs, L1, L2, L3, r1, r2, r3, r4, _, _, r5⟩ := RRows_split j.toNat (by omega) q4
          obtain ⟨_, r5⟩ := nil_of_append r5
          obtain ⟨rfl, _⟩ := nil_of_append r5.symm
          refine ⟨_, fun w => key a w _ rows.length c k j q1 (RV_int g2) p3 p4, ?_⟩
          have hg : rows.getD j.toNat [] = rows[j.toNat]'(by omega) := by
            have : j.toNat < rows.length := by omega
            simp [List.getD_eq_getElem?_getD, this]
          rw [hg, add_mk]
          simp only [RV, true_and]
          subst p1
          exact ⟨b, o' + j.toNat * s, vs, rfl, q3, by omega, fun j' hj' => r3 j' (by omega), r4⟩
      · rename_i s rows k j hx hz
        simp only [Option.some.injEq, Prod.mk.injEq] at hp
        obtain ⟨rfl, rfl, rfl, _⟩ := hp
        obtain ⟨p1, p3, p4⟩ := hpp
        refine tri_pure (m := .mv x) ?_
        intro e a hn ht
        subst hn
        have g1 := RV_arg (ρ := ρ) ht h1
        rw [hx] at g1
        have g2 := RV_arg (ρ := ρ) ht h2
        rw [hz] at g2
        simp only [RV] at g1
        rcases g1.2 with ⟨rfl, _⟩ | ⟨b, o', c, q1, q2, q3, q4⟩
        · simp at p4; omega
        · obtain ⟨vs, L1, L2, L3, r1, r2, r3, r4, _, _, r5⟩ := RRows_split j.toNat (by omega) q4
          obtain ⟨_, r5⟩ := nil_of_append r5
          obtain ⟨rfl, _⟩ := nil_of_append r5.symm
          refine ⟨_, fun w => key a w _ rows.length c k j q1 (RV_int g2) p3 p4, ?_⟩
          have hg : rows.getD j.toNat [] = rows[j.toNat]'(by omega) := by
            have : j.toNat < rows.length := by omega
            simp [List.getD_eq_getElem?_getD, this]
          rw [hg, add_mk]
          simp only [RV, true_and]
          subst p1
          exact ⟨b, o' + j.toNat * s, vs, rfl, q3, by omega, fun j' hj' => r3 j' (by omega), r4⟩
      · simp at hp
  · simp at hc

theorem RRows_sub {e : Env} {W : World} {b o' sz : Nat} {rows : List (List AV)} (l n : Nat) (hl : l ≤ rows.length) (h : RRows e W b o' sz rows []) : RRows e W b (o' + l * sz) sz ((rows.drop l).take n) [] := by
  have h1 : rows = rows.take l ++ rows.drop l := by simp
  rw [h1] at h
  obtain ⟨L1, L2, _, h2, h3⟩ := (RRows_append _ _).1 h
  obtain ⟨_, rfl⟩ := nil_of_append h3
  rw [List.length_take, Nat.min_eq_left hl] at h2
  have h4 : rows.drop l = (rows.drop l).take n ++ (rows.drop l).drop n := (List.take_append_drop n _).symm
  rw [h4] at h2
  obtain ⟨L3, L4, h5, _, h6⟩ := (RRows_append _ _).1 h2
  obtain ⟨rfl, _⟩ := nil_of_append h6
  exact h5

theorem tri_cut {sz : Nat} {x : Arg} {lo hi : Option Arg} (hc : chkOp P num (.cut sz x lo hi) o.op = true) (hp : plan ρ h nx (.cut sz x lo hi) = some (p, v, fp, nx')) (hpp : p) : TriR P num o ρ v fp := by
  simp only [chkOp] at hc
  split at hc
  · rename_i t y l' h' hop
    simp only [Bool.and_eq_true] at hc
    obtain ⟨⟨⟨h1, h2⟩, h3⟩, h4⟩ := hc
    cases hel : elemOf? P t with
    | none => simp [hel] at h4
    | some el =>
      simp only [hel] at h4
      obtain ⟨i, hi', hs⟩ := sizeIs_some h4
      have hu := elemOf_some hel
      have key : ∀ (e : Env) (a : Act) (w : World) (A : Option Addr) (len c : Nat) (l m : Int), e.num = num → (∀ t, RV e (ρ t) (a.tmps.getD t undef) []) → a.eval y = .slice A len c → bnd? ρ 0 lo = some l → bnd? ρ len hi = some m → 0 ≤ l → l ≤ m → m ≤ len → len ≤ c →
          (execOp a.eval o).run P w = .ok (.value (.slice (if c = l.toNat then A else A.map (·.add (l.toNat * sz))) (m.toNat - l.toNat) (c - l.toNat))) w := by
        intro e a w A len c l m hn ht e1 e2 e3 b1 b2 b3 b4
        subst hn
        simp only [execOp, hop, e1, Sem.run_bind, Instr.sliceAt, run_underlying' hu, Result.andThen_ok, Instr.slice, Option.map_none]
        rw [run_sliceBounds (isS := true) ht h2 h3 e2 e3 b1 b2 b3 b4]
        simp [run_sizeOf' hi', hs]
      simp only [plan] at hp
      cases hl : bnd? ρ 0 lo with
      | none => simp [hl] at hp
      | some l =>
        simp only [hl, Option.bind_some] at hp
        split at hp
        · rename_i hx
          cases hh : bnd? ρ 0 hi with
          | none => simp [hh] at hp
          | some m =>
            simp only [hh, Option.map_some, Option.some.injEq, Prod.mk.injEq] at hp
            obtain ⟨rfl, rfl, rfl, _⟩ := hp
            obtain ⟨rfl, rfl⟩ := hpp
            refine tri_pure (m := .mv x) ?_
            intro e a hn ht
            subst hn
            have g1 := RV_arg (ρ := ρ) ht h1
            rw [hx] at g1
            simp only [RV] at g1
            exact ⟨_, fun w => key e a w none 0 0 0 0 rfl ht g1.1 hl hh (by omega) (by omega) (by omega) (by omega), by simp [RV]⟩
        · rename_i nm off len hx
          cases hlk : look h nm with
          | none => simp [hlk] at hp
          | some row =>
            cases hh : bnd? ρ len hi with
            | none => simp [hlk, hh] at hp
            | some m =>
              simp only [hlk, hh, Option.bind_some, Option.map_some, Option.some.injEq, Prod.mk.injEq] at hp
              obtain ⟨rfl, rfl, rfl, _⟩ := hp
              obtain ⟨p1, p2, p3, p4, p5⟩ := hpp
              refine tri_read1 ?_
              intro e L0 H Lf a hn hk hr ht
              subst hn
              have g1 := RV_arg (ρ := ρ) ht h1
              rw [hx] at g1
              rcases ns_at hr g1 with ⟨hq, _, rfl, rfl, aa, g2⟩ | ⟨q, A, Lr, hq, q1, q2, q3, q4, q5, q6, q7⟩
              · have hl0 : l = 0 := by omega
                have hm0 : m = 0 := by omega
                subst hl0 hm0
                refine ⟨_, fun w => key e a w aa 0 0 0 0 rfl ht g2 hl hh (by omega) (by omega) (by omega) (by omega), ?_⟩
                simp [RV, hq]
              · refine ⟨_, fun w => key e a w (some A) len _ l m rfl ht q6 hl hh p3 p4 p5 (by omega), ?_⟩
                simp only [RV, hq, true_and]
                refine ⟨by omega, ?_⟩
                by_cases hcap : q.cap - off = l.toNat
                · rw [if_pos hcap]
                  exact ⟨A, by rw [show q.cap - (off + l.toNat) = q.cap - off - l.toNat by omega], fun hlt => by omega⟩
                · rw [if_neg hcap]
                  refine ⟨A.add (l.toNat * sz), by rw [show q.cap - (off + l.toNat) = q.cap - off - l.toNat by omega]; rfl, fun hlt => ?_⟩
                  rw [q7 (by omega), add_mk, ← p1, ← q1, Nat.add_mul, Nat.add_assoc]
        · rename_i s rows hx
          cases hh : bnd? ρ rows.length hi with
          | none => simp [hh] at hp
          | some m =>
            simp only [hh, Option.map_some, Option.some.injEq, Prod.mk.injEq] at hp
            obtain ⟨rfl, rfl, rfl, _⟩ := hp
            obtain ⟨p1, p3, p4, p5⟩ := hpp
            refine tri_pure (m := .mv x) ?_
            intro e a hn ht
            subst hn
            have g1 := RV_arg (ρ := ρ) ht h1
            rw [hx] at g1
            simp only [RV] at g1
            rcases g1.2 with ⟨rfl, A, c, q1, q2⟩ | ⟨b, o', c, q1, q2, q3, q4⟩
            · simp only [List.length_nil] at hh p5
              have hl0 : l = 0 := by omega
              have hm0 : m = 0 := by omega
              subst hl0 hm0
              refine ⟨_, fun w => key e a w A 0 c 0 0 rfl ht q1 hl hh (by omega) (by omega) (by omega) (by omega), ?_⟩
              simp only [RV, true_and]
              refine .inl ⟨by simp, _, _, rfl, ?_⟩
              intro hA
              cases A with
              | none => have := q2 rfl; omega
              | some A => split at hA <;> simp at hA
            · refine ⟨_, fun w => key e a w _ rows.length c l m rfl ht q1 hl hh p3 p4 p5 q2, ?_⟩
              simp only [RV, true_and]
              have hlen : ((rows.drop l.toNat).take (m.toNat - l.toNat)).length = m.toNat - l.toNat := by simp; omega
              by_cases hz : m.toNat - l.toNat = 0
              · refine .inl ⟨List.length_eq_zero_iff.1 (by omega), _, _, by rw [hz], ?_⟩
                intro hA
                split at hA <;> simp at hA
              · refine .inr ⟨b, o' + l.toNat * s, c - l.toNat, ?_, by omega, q3, RRows_sub _ _ (by omega) q4⟩
                rw [if_neg (by omega), hlen, p1]
                simp [add_mk]
        · rename_i s rows hx
          cases hh : bnd? ρ rows.length hi with
          | none => simp [hh] at hp
          | some m =>
            simp only [hh, Option.map_some, Option.some.injEq, Prod.mk.injEq] at hp
            obtain ⟨rfl, rfl, rfl, _⟩ := hp
            obtain ⟨p1, p3, p4, p5⟩ := hpp
            refine tri_pure (m := .mv x) ?_
            intro e a hn ht
            subst hn
            have g1 := RV_arg (ρ := ρ) ht h1
            rw [hx] at g1
            simp only [RV] at g1
            rcases g1.2 with ⟨rfl, A, c, q1, q2⟩ | ⟨b, o', c, q1, q2, q3, q4⟩
            · simp only [List.length_nil] at hh p5
              have hl0 : l = 0 := by omega
              have hm0 : m = 0 := by omega
              subst hl0 hm0
              refine ⟨_, fun w => key e a w A 0 c 0 0 rfl ht q1 hl hh (by omega) (by omega) (by omega) (by omega), ?_⟩
              simp only [RV, true_and]
              refine .inl ⟨by simp, _, _, rfl, ?_⟩
              intro hA
              cases A with
              | none => have := q2 rfl; omega
              | some A => split at hA <;> simp at hA
            · refine ⟨_, fun w => key e a w _ rows.length c l m rfl ht q1 hl hh p3 p4 p5 q2, ?_⟩
              simp only [RV, true_and]
              have hlen : ((rows.drop l.toNat).take (m.toNat - l.toNat)).length = m.toNat - l.toNat := by simp; omega
              by_cases hz : m.toNat - l.toNat = 0
              · refine .inl ⟨List.length_eq_zero_iff.1 (by omega), _, _, by rw [hz], ?_⟩
                intro hA
                split at hA <;> simp at hA
              · refine .inr ⟨b, o' + l.toNat * s, c - l.toNat, ?_, by omega, q3, RRows_sub _ _ (by omega) q4⟩
                rw [if_neg (by omega), hlen, p1]
                simp [add_mk]
        · simp at hp
  · simp at hc

end
end Go.Sep
