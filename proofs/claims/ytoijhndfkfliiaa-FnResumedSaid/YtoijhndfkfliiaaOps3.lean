/- Operations that turn no row: fields, structs, cuts, places. -/
import Derived.Test.YtoijhndfkfliiaaOps2
import Derived.Laws.StructEq
namespace Go.Sep
set_option linter.unusedVariables false
set_option linter.unusedSimpArgs false

section
variable {P : Program} {num : Nat → Nat} {o : Oper} {ρ : Nat → AV} {h : Heap} {nx nx' : Nat} {p : Prop} {v : AV} {fp : FP}

theorem nil_of_append {a b : List Nat} (h : [] = a ++ b) : a = [] ∧ b = [] := by
  have := h.symm
  simpa using this

theorem RVs_take_drop {e : Env} {cs : List AV} {vs : List Value} (n : Nat) (h : RVs e cs vs []) : RVs e (cs.take n) (vs.take n) [] ∧ RVs e (cs.drop n) (vs.drop n) [] := by
  have hl := RVs_length h
  by_cases hn : n ≤ cs.length
  · rw [← List.take_append_drop n cs] at h
    obtain ⟨c1, c2, L1, L2, h1, h2, h3, h4⟩ := (RVs_append _ _).1 h
    obtain ⟨rfl, rfl⟩ := nil_of_append h2
    have h5 := RVs_length h3
    rw [List.length_take, Nat.min_eq_left hn] at h5
    subst h1
    rw [List.take_left' h5, List.drop_left' h5]
    exact ⟨h3, h4⟩
  · rw [List.take_of_length_le (by omega), List.take_of_length_le (by omega), List.drop_of_length_le (by omega), List.drop_of_length_le (by omega)]
    exact ⟨h, by simp [RVs]⟩
theorem RVs_take {e : Env} {cs : List AV} {vs : List Value} (n : Nat) (h : RVs e cs vs []) : RVs e (cs.take n) (vs.take n) [] := (RVs_take_drop n h).1
theorem RVs_drop {e : Env} {cs : List AV} {vs : List Value} (n : Nat) (h : RVs e cs vs []) : RVs e (cs.drop n) (vs.drop n) [] := (RVs_take_drop n h).2

theorem run_part {w : World} {t : TypeId} {cs : List Value} {off n : Nat} {ag : Bool} {i : TypeInfo} (hag : aggB P t = some ag) (hi : P.info? t = some i) (hn : i.size = n) (h1 : ag = true ∨ n = 1) (hl : off + n ≤ cs.length) :
    (part t cs.toArray off).run P w = .ok (if ag then .agg ((cs.drop off).take n).toArray else cs.getD off undef) w := by
  subst hn
  unfold part
  simp only [Sem.run_bind, run_isAgg hag, Result.andThen_ok]
  cases ag with
  | true => simp [run_sizeOf' hi]
  | false =>
    simp at h1
    have : off < cs.length := by omega
    simp [this]

theorem tri_fld {off n : Nat} {ag : Bool} {x : Arg} (hc : chkOp P num (.fld off n ag x) o.op = true) (hp : plan ρ h nx (.fld off n ag x) = some (p, v, fp, nx')) (hpp : p) : TriR P num o ρ v fp := by
  simp only [chkOp] at hc
  split at hc
  · rename_i t y f hop
    simp only [Bool.and_eq_true] at hc
    obtain ⟨hc, h5⟩ := hc
    cases hfs : fieldsOf P t with
    | none => simp [hfs] at h5
    | some fs =>
      simp only [hfs] at h5
      cases hg : fs[f]? with
      | none => simp [hg] at h5
      | some g =>
        simp only [hg, Bool.and_eq_true, beq_iff_eq, Bool.or_eq_true] at h5
        obtain ⟨⟨⟨h6, h7⟩, h8⟩, h9⟩ := h5
        obtain ⟨i, hi, hin⟩ := sizeIs_some h7
        simp only [plan] at hp
        split at hp
        · rename_i cs hx
          simp only [Option.some.injEq, Prod.mk.injEq] at hp
          obtain ⟨rfl, rfl, rfl, _⟩ := hp
          refine tri_pure (m := .mv x) ?_
          intro e a hn ht
          subst hn
          have g1 := RV_arg (ρ := ρ) ht hc
          rw [hx] at g1
          simp only [RV] at g1
          obtain ⟨vs, g1, g2⟩ := g1
          have hl := RVs_length g2
          refine ⟨if ag then .agg ((vs.drop off).take n).toArray else vs.getD off undef, ?_, ?_⟩
          · intro w
            simp only [execOp, hop, g1, Sem.run_bind, Instr.field, run_underlying' (fieldsOf_some hfs), Result.andThen_ok, hg, asAgg, Sem.run_pure]
            rw [h6, run_part h8 hi hin h9 (by omega)]
            rfl
          · cases ag with
            | true =>
              simp only [if_true, RV]
              exact ⟨_, rfl, RVs_take n (RVs_drop off g2)⟩
            | false =>
              simp at h9
              subst h9
              obtain ⟨c, h10, h11⟩ := RVs_nil_get g2 off (by omega)
              simp only [Bool.false_eq_true, if_false]
              have e1 : vs.getD off undef = c := by simp [List.getD_eq_getElem?_getD, h10]
              have e2 : cs.getD off .any = cs[off]'(by omega) := by
                have : off < cs.length := by omega
                simp [List.getD_eq_getElem?_getD, this]
              rw [e1, e2]
              exact h11
        · simp at hp
  · simp at hc

theorem cell_value {e : Env} {v : AV} {c : Value} {L : List Nat} (hv : cellOk v = true) (h : RV e v c L) : c.oneCell' = true := by
  cases v
  case sl m sz rows =>
    cases m <;> simp only [RV] at h
    · rcases h with ⟨_, _, _, rfl⟩ | ⟨p, Lr, _, rfl, _⟩ <;> rfl
    · rcases h.2 with ⟨_, a, c, rfl, _⟩ | ⟨b, o, c, rfl, _⟩ <;> rfl
    · rcases h.2 with ⟨_, a, c, rfl, _⟩ | ⟨b, o, c, rfl, _⟩ <;> rfl
  case any => simp [cellOk] at hv
  case agg => simp [cellOk] at hv
  case tup => simp [cellOk] at hv
  all_goals simp only [RV] at h
  case int => obtain ⟨rfl, _⟩ := h; rfl
  case bool => obtain ⟨rfl, _⟩ := h; rfl
  case str => obtain ⟨rfl, _⟩ := h; rfl
  case fn => obtain ⟨vs, rfl, _⟩ := h; rfl
  case nilp => obtain ⟨rfl, _⟩ := h; rfl
  case ptr nm i f =>
    obtain ⟨_, h⟩ := h
    cases hq : e.φ nm <;> rw [hq] at h
    · obtain ⟨a, rfl⟩ := h; rfl
    · exact h.elim
    · subst h; rfl
  case fptr => obtain ⟨_, b, o, vs, rfl, _⟩ := h; rfl
  case nil => obtain ⟨rfl, _⟩ := h; rfl
  case nilI => obtain ⟨rfl, _⟩ := h; rfl
  case ifc => obtain ⟨⟨t, u, rfl⟩, _⟩ := h; rfl
  case ns nm off len =>
    obtain ⟨_, h⟩ := h
    cases hq : e.φ nm <;> rw [hq] at h
    · obtain ⟨a, l, c, rfl⟩ := h; rfl
    · obtain ⟨_, _, _, rfl⟩ := h; rfl
    · obtain ⟨_, a, rfl, _⟩ := h; rfl

theorem cells_value {e : Env} {v : AV} {c : Value} (hv : (cellsOf v).all cellOk = true) (h : RV e v c []) : RVs e (cellsOf v) c.cells.toList [] := by
  cases v
  case agg cs =>
    simp only [RV] at h
    obtain ⟨vs, rfl, h⟩ := h
    simpa [cellsOf, Value.cells] using h
  all_goals
    simp only [cellsOf, List.all_cons, List.all_nil, Bool.and_true] at hv
    have hc := cell_value hv h
    have : c.cells = #[c] := by cases c <;> first | rfl | simp [Value.oneCell'] at hc
    rw [this]
    simp only [cellsOf, RVs]
    exact ⟨c, [], [], [], rfl, h, ⟨rfl, rfl⟩, rfl⟩

theorem cells_one {e : Env} : ∀ {l : List AV} {vs : List Value} {L : List Nat}, l.all cellOk = true → RVs e l vs L → ∀ u ∈ vs, u.oneCell' = true
  | [], vs, L, _, h => by simp only [RVs] at h; simp [h.1]
  | c :: l, vs, L, hl, h => by
    simp only [RVs] at h
    obtain ⟨v, vs', L1, L2, rfl, h2, h3, rfl⟩ := h
    simp only [List.all_cons, Bool.and_eq_true] at hl
    intro u hu
    rcases List.mem_cons.1 hu with rfl | hu
    · exact cell_value hl.1 h2
    · exact cells_one hl.2 h3 u hu

/-- A list some of whose places are set. -/
theorem RVs_splice {e : Env} {cs ds : List AV} {vs us : List Value} {f : Nat} (h1 : RVs e cs vs []) (h2 : RVs e ds us []) (hf : f + ds.length ≤ cs.length) :
    RVs e (splice cs f ds) (vs.take f ++ us ++ vs.drop (f + us.length)) [] := by
  unfold splice
  have hu := RVs_length h2
  rw [hu]
  refine (RVs_append _ _).2 ⟨vs.take f ++ us, vs.drop (f + ds.length), [], [], rfl, rfl, (RVs_append _ _).2 ⟨_, _, [], [], rfl, rfl, RVs_take f h1, h2⟩, RVs_drop _ h1⟩

theorem splice_length {α : Type} (cs ds : List α) (f : Nat) (hf : f + ds.length ≤ cs.length) : (cs.take f ++ ds ++ cs.drop (f + ds.length)).length = cs.length := by
  simp
  omega

theorem arrSet_list (arr : Array Value) (f : Nat) (us : List Value) (hf : f + us.length ≤ arr.size) : (arrSet arr f us).toList = arr.toList.take f ++ us ++ arr.toList.drop (f + us.length) := by
  apply List.ext_getElem?
  intro k
  rw [Array.getElem?_toList]
  by_cases h1 : k < f
  · rw [arrSet_other _ _ _ _ (.inl h1)]
    rw [List.append_assoc, List.getElem?_append_left (by simp; omega)]
    simp [h1]
  · by_cases h2 : k < f + us.length
    · obtain ⟨j, rfl⟩ : ∃ j, k = f + j := ⟨k - f, by omega⟩
      rw [arrSet_at _ _ _ _ (by omega) hf]
      have : (List.take f arr.toList).length = f := by simp; omega
      rw [List.append_assoc, List.getElem?_append_right (by omega), this, List.getElem?_append_left (by omega)]
      simp
    · rw [arrSet_other _ _ _ _ (.inr (by omega))]
      have : (List.take f arr.toList ++ us).length = f + us.length := by simp; omega
      rw [List.getElem?_append_right (by omega), this]
      simp
      congr 1
      omega

theorem fold_arrSet (vc : List Value) : ∀ (cs : Array Value) (off k : Nat), (vc.zipIdx k).foldl (fun cs (c, j) => cs.setIfInBounds (off + j) c) cs = arrSet cs (off + k) vc := by
  induction vc with
  | nil => intro cs off k; rfl
  | cons v vc ih =>
    intro cs off k
    simp only [List.zipIdx_cons, List.foldl_cons, arrSet]
    rw [ih, Nat.add_assoc]

/-- How a struct's parts are filled in. -/
theorem fill_parts {e : Env} {a : Act} {fs : Array Field} {places : Array (Nat × Nat)} (hpl : ∀ (i : Nat) (f : Field) (n : Nat), fs[i]? = some f → sizeIs P f.type n = true → places[i]? = some (f.offset, n))
    (ht : ∀ t, RV e (ρ t) (a.tmps.getD t undef) []) : ∀ (parts : List (Nat × Nat × Arg)) (ps : List (Nat × Operand)) (cs : List AV) (arr : Array Value), chkParts P e.num fs ps parts = true →
      fillOk ρ cs.length parts → RVs e cs arr.toList [] → ∃ arr', Instr.fill (places[·]?) arr (ps.map fun x => (x.1, a.eval x.2)) = some arr' ∧ RVs e (fillA ρ cs parts) arr'.toList []
  | [], ps, cs, arr, hc, _, h => by
    cases ps with
    | nil => exact ⟨arr, rfl, h⟩
    | cons => simp [chkParts] at hc
  | (off, sz, y) :: parts, ps, cs, arr, hc, hf, h => by
    cases ps with
    | nil => simp [chkParts] at hc
    | cons q ps =>
      obtain ⟨i, x⟩ := q
      simp only [chkParts, Bool.and_eq_true] at hc
      obtain ⟨⟨h1, h2⟩, h3⟩ := hc
      simp only [fillOk] at hf
      obtain ⟨⟨f1, f2, f3⟩, f4⟩ := hf
      cases hg : fs[i]? with
      | none => simp [hg] at h1
      | some f =>
        simp only [hg, Bool.and_eq_true, beq_iff_eq] at h1
        obtain ⟨rfl, h5⟩ := h1
        have g := cells_value f2 (RV_arg (ρ := ρ) ht h2)
        have gl := RVs_length g
        have hl := RVs_length h
        have hs := arrSet_list arr f.offset (a.eval x).cells.toList (by simp at gl hl ⊢; omega)
        have hr : RVs e (splice cs f.offset (cellsOf (y.ev ρ))) (arrSet arr f.offset (a.eval x).cells.toList).toList [] := by
          rw [hs]
          exact RVs_splice h g (by omega)
        have hlen : (splice cs f.offset (cellsOf (y.ev ρ))).length = cs.length := splice_length _ _ _ (by omega)
        obtain ⟨arr', h6, h7⟩ := fill_parts hpl ht parts ps _ _ h3 (by rw [hlen]; exact f4) hr
        refine ⟨arr', ?_, h7⟩
        simp only [List.map_cons, Instr.fill, hpl i f sz hg h5]
        have hsz : (a.eval x).cells.size = sz := by simp at gl; omega
        have ha : arr.size = cs.length := by simpa using hl
        have hcond : ¬ (((a.eval x).cells.size ≠ sz || f.offset + (a.eval x).cells.size > arr.size) = true) := by
          simp [hsz, ha]; omega
        rw [if_neg hcond]
        have hz : (a.eval x).cells.zipIdx.foldl (fun cs (c, j) => cs.setIfInBounds (f.offset + j) c) arr = arrSet arr f.offset (a.eval x).cells.toList := by
          rw [← Array.foldl_toList, Array.toList_zipIdx, fold_arrSet]
          simp
        rw [hz]
        exact h6

theorem run_mapM_list {α β : Type} {w : World} (g : α → Sem β) (k : α → β) : ∀ (l : List α), (∀ x ∈ l, (g x).run P w = .ok (k x) w) → (l.mapM g).run P w = .ok (l.map k) w
  | [], _ => by simp
  | x :: l, h => by
    rw [List.mapM_cons]
    simp only [Sem.run_bind, h x (by simp), Result.andThen_ok, run_mapM_list g k l (fun y hy => h y (by simp [hy])), Sem.run_pure, List.map_cons]

theorem run_mapM_array {α β : Type} {w : World} (g : α → Sem β) (k : α → β) (l : Array α) (h : ∀ x ∈ l.toList, (g x).run P w = .ok (k x) w) : (l.mapM g).run P w = .ok (l.map k) w := by
  rw [Array.mapM_eq_mapM_toList, Sem.run_map, run_mapM_list g k l.toList h]
  simp only [Result.andThen_ok]
  rw [← Array.toList_map, Array.toArray_toList]

theorem chkZero_some {t : TypeId} {zero : List AV} (h : chkZero P t zero = true) : ∃ i z, P.info? t = some i ∧ i.size = zero.length ∧ i.zero = some z ∧ chkVs zero z.cells.toList = true ∧ zero.all cellOk = true := by
  unfold chkZero at h
  cases hi : P.info? t with
  | none => simp [hi] at h
  | some i =>
    simp only [hi, Bool.and_eq_true, beq_iff_eq] at h
    cases hz : i.zero with
    | none => simp [hz] at h
    | some z =>
      simp only [hz] at h
      exact ⟨i, z, rfl, h.1.1, hz, h.2, h.1.2⟩

theorem fillA_length {l : List (Nat × Nat × Arg)} : ∀ {cs : List AV}, fillOk ρ cs.length l → (fillA ρ cs l).length = cs.length := by
  induction l with
  | nil => intro cs _; rfl
  | cons x l ih =>
    obtain ⟨off, sz, y⟩ := x
    intro cs h
    simp only [fillOk] at h
    have : (splice cs off (cellsOf (y.ev ρ))).length = cs.length := splice_length _ _ _ (by omega)
    simp only [fillA]
    rw [ih (by rw [this]; exact h.2), this]

theorem tri_build {zero : List AV} {parts : List (Nat × Nat × Arg)} (hc : chkOp P num (.build zero parts) o.op = true) (hp : plan ρ h nx (.build zero parts) = some (p, v, fp, nx')) (hpp : p) : TriR P num o ρ v fp := by
  simp only [chkOp] at hc
  split at hc
  · rename_i t ps hop
    simp only [Bool.and_eq_true] at hc
    obtain ⟨h1, h2⟩ := hc
    obtain ⟨i, z, hi, hs, hz, hzv, hzo⟩ := chkZero_some h1
    cases hfs : fieldsOf P t with
    | none => simp [hfs] at h2
    | some fs =>
      simp only [hfs, Bool.and_eq_true, List.all_eq_true] at h2
      obtain ⟨h3, h4⟩ := h2
      simp only [plan, Option.some.injEq, Prod.mk.injEq] at hp
      obtain ⟨rfl, rfl, rfl, _⟩ := hp
      refine tri_pure (m := .mv (.t 0)) ?_
      intro e a hn ht
      subst hn
      have hm : ∀ w, (fs.mapM fun (f : Field) => do pure (f.offset, ← sizeOf f.type)).run P w = .ok (fs.map fun (f : Field) => (f.offset, ((P.info? f.type).map (·.size)).getD 0)) w := by
        intro w
        refine run_mapM_array _ _ fs ?_
        intro f hf
        obtain ⟨j, hj⟩ := Option.isSome_iff_exists.1 (h3 f hf)
        simp [run_sizeOf' hj, hj]
      obtain ⟨arr', h5, h6⟩ := fill_parts (P := P) (ρ := ρ) (e := e) (a := a) (fs := fs) (places := fs.map fun (f : Field) => (f.offset, ((P.info? f.type).map (·.size)).getD 0)) (fun i f n hf hn => by
        obtain ⟨j, hj, hjn⟩ := sizeIs_some hn
        simp [hf, hj, hjn]) ht parts ps.toList zero z.cells h4 hpp (RVs_const hzv)
      refine ⟨.agg arr', ?_, ?_⟩
      · intro w
        simp only [execOp, hop, Sem.run_bind, Instr.build, run_zeroValue' hi hz, run_underlying' (fieldsOf_some hfs), Result.andThen_ok]
        rw [hm]
        simp only [Result.andThen_ok]
        have e1 : (ps.map fun (i, x) => (i, a.eval x)).toList = ps.toList.map fun x => (x.1, a.eval x.2) := by simp
        rw [e1, h5]
        rfl
      · simp only [RV]
        exact ⟨arr'.toList, by simp, h6⟩
  · simp at hc

end
end Go.Sep
