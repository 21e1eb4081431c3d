/- A call, whole: the caller goes on with what the contract tells. -/
import Derived.Test.YtoijhndfkfliiaaCallTo
namespace Go.Sep
set_option linter.unusedVariables false
set_option linter.unusedSimpArgs false

def ixm : List (Nat × Nat) → Nat → Nat
  | [], _ => 0
  | (a, b) :: σ, n => if n = b then a else ixm σ n

def hand (ix : Nat → Nat) (h : Heap) : List Bool → List AV → List AV
  | _, [] => []
  | true :: ps, v :: vs => renV ix v :: hand ix h ps vs
  | false :: ps, v :: vs => bwT h v :: hand ix h ps vs
  | [], v :: vs => bwT h v :: hand ix h [] vs

def handOk (h : Heap) (A F : Nat → Prop) : List Bool → List AV → Prop
  | _, [] => True
  | true :: ps, v :: vs => okV A v ∧ handOk h A F ps vs
  | false :: ps, v :: vs => bwOk h F v ∧ handOk h A F ps vs
  | [], v :: vs => bwOk h F v ∧ handOk h A F [] vs

theorem hand_ok {e e' : Env} {V : Nat → Prop} {h : Heap} {Lf : Nat → List Nat} {A F : Nat → Prop} {ix : Nat → Nat} (hs : Lends e e' V) (hse : Sees e e') (hw : e'.w = e.w) (hr : RH e (look h) Lf) (hV : ∀ nm, look h nm ≠ none → ¬ F nm → ∀ b ∈ Lf nm, V b) (hφ : ∀ n, A n → e'.φ (ix n) = e.φ n) :
    ∀ (ps : List Bool) (vs : List AV) {cs : List Value}, handOk h A F ps vs → RVs e vs cs [] → RVs e' (hand ix h ps vs) cs []
  | ps, [], cs, _, hv => by
    have : hand ix h ps [] = [] := by cases ps with
      | nil => rfl
      | cons p ps => cases p <;> rfl
    rw [this]
    simpa only [RVs] using hv
  | true :: ps, v :: vs, cs, hk, hv => by
    simp only [handOk, hand, RVs] at hk hv ⊢
    obtain ⟨c, cs', L1, L2, h1, h2, h3, h4⟩ := hv
    have hL1 : L1 = [] := (nil_of_append h4).1
    have hL2 : L2 = [] := (nil_of_append h4).2
    subst hL1 hL2
    exact ⟨c, cs', [], [], h1, renV_ok hse hφ v (by simp) hk.1 h2, hand_ok hs hse hw hr hV hφ ps vs hk.2 h3, rfl⟩
  | false :: ps, v :: vs, cs, hk, hv => by
    simp only [handOk, hand, RVs] at hk hv ⊢
    obtain ⟨c, cs', L1, L2, h1, h2, h3, h4⟩ := hv
    have hL1 : L1 = [] := (nil_of_append h4).1
    have hL2 : L2 = [] := (nil_of_append h4).2
    subst hL1 hL2
    exact ⟨c, cs', [], [], h1, bwT_ok hs hr hV v hk.1 h2, hand_ok hs hse hw hr hV hφ ps vs hk.2 h3, rfl⟩
  | [], v :: vs, cs, hk, hv => by
    simp only [handOk, hand, RVs] at hk hv ⊢
    obtain ⟨c, cs', L1, L2, h1, h2, h3, h4⟩ := hv
    have hL1 : L1 = [] := (nil_of_append h4).1
    have hL2 : L2 = [] := (nil_of_append h4).2
    subst hL1 hL2
    exact ⟨c, cs', [], [], h1, bwT_ok hs hr hV v hk.1 h2, hand_ok hs hse hw hr hV hφ [] vs hk.2 h3, rfl⟩

theorem RVs_args {e : Env} {ρ : Nat → AV} {a : Act} (ht : ∀ t, RV e (ρ t) (a.tmps.getD t undef) []) : ∀ (xs : List Operand) (ys : List Arg), chkAs e.num xs ys = true → RVs e (ys.map (Arg.ev ρ)) (xs.map a.eval) []
  | [], [], _ => by simp [RVs]
  | x :: xs, y :: ys, h => by
    simp only [chkAs, Bool.and_eq_true] at h
    simp only [List.map_cons, RVs]
    exact ⟨_, _, [], [], rfl, RV_arg ht h.1, RVs_args ht xs ys h.2, rfl⟩
  | [], _ :: _, h => by simp [chkAs] at h
  | _ :: _, [], h => by simp [chkAs] at h

theorem look_preH {fp : FP} (hnd : (fp.map (·.1)).Nodup) {x : Nat × Option Row × Option Row} (hx : x ∈ fp) : look (preH fp) x.1 = x.2.1 := by
  induction fp with
  | nil => simp at hx
  | cons y fp ih =>
    obtain ⟨n, a, b⟩ := y
    simp only [List.map_cons, List.nodup_cons] at hnd
    have hnone : look (preH fp) n = none := by
      cases hh : look (preH fp) n with
      | none => rfl
      | some r => exact absurd (preH_post (by simp [hh])) hnd.1
    rcases List.mem_cons.1 hx with rfl | hx'
    · cases a with
      | none => simp only [preH]; exact hnone
      | some r => simp [preH, look]
    · have hne : x.1 ≠ n := fun he => hnd.1 (List.mem_map.2 ⟨x, hx', he⟩)
      cases a with
      | none => simp only [preH]; exact ih hnd.2 hx'
      | some r => simp only [preH, look]; rw [if_neg hne]; exact ih hnd.2 hx'

theorem look_postH {fp : FP} (hnd : (fp.map (·.1)).Nodup) {x : Nat × Option Row × Option Row} (hx : x ∈ fp) : look (postH fp) x.1 = x.2.2 := by
  induction fp with
  | nil => simp at hx
  | cons y fp ih =>
    obtain ⟨n, a, b⟩ := y
    simp only [List.map_cons, List.nodup_cons] at hnd
    have hnone : look (postH fp) n = none := by
      cases hh : look (postH fp) n with
      | none => rfl
      | some r => exact absurd (postH_mem (by simp [hh])) hnd.1
    rcases List.mem_cons.1 hx with rfl | hx'
    · cases b with
      | none => simp only [postH]; exact hnone
      | some r => simp [postH, look]
    · have hne : x.1 ≠ n := fun he => hnd.1 (List.mem_map.2 ⟨x, hx', he⟩)
      cases b with
      | none => simp only [postH]; exact ih hnd.2 hx'
      | some r => simp only [postH, look]; rw [if_neg hne]; exact ih hnd.2 hx'

theorem upH_nodup : ∀ {fp : FP} {H : Nat → Option Row} {x : Nat × Option Row × Option Row}, (fp.map (·.1)).Nodup → x ∈ fp → upH H fp x.1 = x.2.2
  | [], H, x, _, hx => by simp at hx
  | (n, a, b) :: fp, H, x, hnd, hx => by
    simp only [List.map_cons, List.nodup_cons] at hnd
    simp only [upH]
    rcases List.mem_cons.1 hx with rfl | hx
    · rw [upH_none hnd.1, if_pos rfl]
    · exact upH_nodup hnd.2 hx

/-- Who has this name. -/
def inv (f : Nat → Nat) (fp : FP) (n : Nat) : Option Nat := (fp.find? (fun x => f x.1 == n)).map (·.1)

theorem inv_some {f : Nat → Nat} {fp : FP} (hnd : (fp.map (fun x => f x.1)).Nodup) {x : Nat × Option Row × Option Row} (hx : x ∈ fp) : inv f fp (f x.1) = some x.1 := by
  induction fp with
  | nil => simp at hx
  | cons y fp ih =>
    simp only [List.map_cons, List.nodup_cons] at hnd
    unfold inv
    rcases List.mem_cons.1 hx with rfl | hx
    · simp
    · have hne : f y.1 ≠ f x.1 := fun he => hnd.1 (List.mem_map.2 ⟨x, hx, he.symm⟩)
      rw [List.find?_cons_of_neg (by simpa using hne)]
      exact ih hnd.2 hx

theorem inv_none {f : Nat → Nat} {fp : FP} {n : Nat} (h : n ∉ fp.map (fun x => f x.1)) : inv f fp n = none := by
  unfold inv
  cases hh : fp.find? (fun x => f x.1 == n) with
  | none => rfl
  | some x =>
    have h1 := List.find?_some hh
    have h2 := List.mem_of_find?_eq_some hh
    simp only [beq_iff_eq] at h1
    exact absurd (List.mem_map.2 ⟨x, h2, h1⟩) h

section
variable {P : Program} {num : Nat → Nat}

/-- The run of a call's operation: the callee is entered. -/
theorem run_enter {o : Oper} {a : Act} {w : World} {g : Nat} {args : Array Operand} {ats : Array TypeId} (hop : o.op = .call { callee := .value (.func g), args, argTypes := ats }) (hb : Body P g) :
    (execOp a.eval o).run P w = .ok (.enter g (args.map a.eval)) w := by
  obtain ⟨fn, hf, hname, hbd⟩ := hb
  have h1 : ¬ fn.name = "runtime.NumGoroutine" := by simpa using hname
  have h2 : ¬ fn.body = none := by cases hx : fn.body <;> simp_all
  unfold execOp
  simp [hop, resolve, Deferred.ofValue, invoke, callFunc, hf, h1, h2, Act.eval]

theorem CallR.to {m : MOp} {t : List (Nat × AV)} {h : Heap} {nx nx' : Nat} {v : AV} {fp : FP} {dst : Option Nat} (hc : CallR P num m t h nx v fp nx') : CallTo P num m dst (.mk t h nx) (.mk (putD t dst v) (app1 h fp) nx') := by
  intro B o a w K Q hnum hchk hdst hdok hs k
  obtain ⟨hsz, hdef, hb, hbt, φ, Lf, hl⟩ := hs
  obtain ⟨pb, hr⟩ := hc hb hbt
  subst hdst
  refine hr B o a w φ Lf K Q hnum hchk hl ?_
  intro e3 Lf3 v' TT g1
  obtain ⟨k1, k2, k3, Lf4, k4⟩ := hl.turn (d := o.dst) hsz hdok hb hbt pb TT g1
  exact k _ _ ⟨by rw [put_size]; exact hsz, by rw [put_defers]; exact hdef, k2, k3, e3.φ, Lf4, k4⟩

theorem call_ok {f nx n1 : Nat} {ps : List Bool} {xs : List Arg} {t : List (Nat × AV)} {h : Heap} {fp : FP} {res : AV} {vargs : List AV} (σ : List (Nat × Nat)) (hc : CallOk P num f vargs fp res)
    (hv : nilL (hand (ixm σ) h ps (xs.map (Arg.ev (lookT t)))) vargs)
    (hvo : handOk h (fun n => ∃ x ∈ fp, x.2.1 ≠ none ∧ n = rnm σ x.1 ∧ ixm σ n = x.1) (fun n => ∃ x ∈ fp, n = rnm σ x.1) ps (xs.map (Arg.ev (lookT t))))
    (hnd : (fp.map (fun x => rnm σ x.1)).Nodup) (hpre : ∀ x ∈ fp, look h (rnm σ x.1) = x.2.1 ∧ (x.2.1 = none → nx ≤ rnm σ x.1) ∧ rnm σ x.1 < n1)
    (hnb : ∀ x ∈ fp, (∀ r, x.2.1 = some r → nbr r.2) ∧ (∀ r, x.2.2 = some r → nbr r.2)) (hres : okV (fun k => ∃ x ∈ fp, x.1 = k ∧ x.2.2 ≠ none) res) (hn1 : nx ≤ n1) :
    CallR P num (.call f ps xs) t h nx (openV n1 (renV (rnm σ) res)).1 (fp.map (fun x => (rnm σ x.1, x.2)) ++ fresh (openV n1 (renV (rnm σ) res)).2.1) (openV n1 (renV (rnm σ) res)).2.2 := by
  intro hb hbt
  let rn := rnm σ
  have hnd0 : (fp.map (·.1)).Nodup := by
    have : fp.map (fun x => rnm σ x.1) = (fp.map (·.1)).map (rnm σ) := by simp
    rw [this] at hnd
    exact List.Pairwise.of_map (rnm σ) (fun a b h he => h (by rw [he])) hnd
  have rinj : ∀ x ∈ fp, ∀ y ∈ fp, rnm σ x.1 = rnm σ y.1 → x.1 = y.1 := by
    intro x hx y hy he
    have h1 := inv_some hnd hx
    have h2 := inv_some hnd hy
    rw [he, h2] at h1
    exact (Option.some.inj h1).symm
  have preS : ∀ k, look (preH fp) k ≠ none → ∃ x ∈ fp, x.1 = k ∧ x.2.1 = look (preH fp) k := by
    intro k hk
    obtain ⟨x, hx, rfl⟩ := List.mem_map.1 (preH_post hk)
    exact ⟨x, hx, rfl, (look_preH hnd0 hx).symm⟩
  have preR : ∀ k, look (preH fp) k ≠ none → look h (rnm σ k) = look (preH fp) k := by
    intro k hk
    obtain ⟨x, hx, rfl, h1⟩ := preS k hk
    rw [(hpre x hx).1, h1]
  have hbres : bnd (· < n1) (renV (rnm σ) res) := renV_bnd (A := fun k => ∃ x ∈ fp, x.1 = k ∧ x.2.2 ≠ none) (fun n ⟨x, hx, he, _⟩ => by rw [← he]; exact (hpre x hx).2.2) res hres
  have hle := openV_le (renV (rnm σ) res) n1
  have opnone : ∀ y ∈ (openV n1 (renV (rnm σ) res)).2.1, look h y.1 = none := fun y hy => hb.new (Nat.le_trans hn1 (hle.2 y hy).1)
  have hob := openV_bnd (renV (rnm σ) res) n1 hbres
  have pb : PB h nx (openV n1 (renV (rnm σ) res)).1 (fp.map (fun x => (rnm σ x.1, x.2)) ++ fresh (openV n1 (renV (rnm σ) res)).2.1) (openV n1 (renV (rnm σ) res)).2.2 := {
    le := Nat.le_trans hn1 hle.1
    v := hob.1
    pre := fun x hx => by
      rcases List.mem_append.1 hx with hx | hx
      · obtain ⟨y, hy, rfl⟩ := List.mem_map.1 hx
        exact (hpre y hy).1
      · obtain ⟨y, hy, rfl⟩ := List.mem_map.1 hx
        exact opnone y hy
    new := fun x hx hn => by
      rcases List.mem_append.1 hx with hx | hx
      · obtain ⟨y, hy, rfl⟩ := List.mem_map.1 hx
        exact (hpre y hy).2.1 hn
      · obtain ⟨y, hy, rfl⟩ := List.mem_map.1 hx
        exact Nat.le_trans hn1 (hle.2 y hy).1
    lt := fun x hx => by
      rcases List.mem_append.1 hx with hx | hx
      · obtain ⟨y, hy, rfl⟩ := List.mem_map.1 hx
        exact Nat.lt_of_lt_of_le (hpre y hy).2.2 hle.1
      · obtain ⟨y, hy, rfl⟩ := List.mem_map.1 hx
        exact (hle.2 y hy).2
    row := fun x hx row hr => by
      rcases List.mem_append.1 hx with hx | hx
      · obtain ⟨y, hy, rfl⟩ := List.mem_map.1 hx
        exact nbr_bnd _ ((hnb y hy).2 row hr)
      · obtain ⟨y, hy, rfl⟩ := List.mem_map.1 hx
        simp only [Option.some.injEq] at hr
        subst hr
        exact hob.2 y hy }
  refine ⟨pb, ?_⟩
  intro B o a w φ Lf K Q hnum hchk hl k
  subst hnum
  -- the callee's memory
  let V : Nat → Prop := fun b => ∃ nm, look h nm ≠ none ∧ (¬ ∃ x ∈ fp, nm = rnm σ x.1) ∧ b ∈ Lf nm
  classical
  let ec : Env := { num := B.num, w := w, w0 := w, φ := fun n => if look (preH fp) n ≠ none then φ (rnm σ n) else .dead, Fr := B.Fr, Bo := fun b => B.Bo b ∨ V b }
  let Lc : Nat → List Nat := fun n => Lf (rnm σ n)
  let e : Env := B.env w φ
  have hfz : ∀ b, B.Fr b ∨ B.Bo b → ∀ o, w.cell? ⟨b, o, none⟩ = B.w0.cell? ⟨b, o, none⟩ := fun b hb' o => hl.ok.frozen_cell hb' o
  have hlend : Lends e ec V := { num := rfl, w0 := rfl, fr := fun b hb' => hb', bo := fun b hb' => hb'.elim .inl (fun h => h.elim (fun h1 => .inr (.inl h1)) (fun h1 => .inr (.inr h1))), cells := hfz }
  have hsee : Sees e ec := { num := rfl, fr := fun b hb' => hb', cells := fun b hb' o => hfz b (.inl hb') o }
  have φc : ∀ n, look (preH fp) n ≠ none → ec.φ n = φ (rnm σ n) := fun n hn => by
    show (if look (preH fp) n ≠ none then φ (rnm σ n) else Spot.dead) = φ (rnm σ n)
    rw [if_pos hn]
  have hVl : ∀ b, V b → b < w.heap.size ∧ ∀ n, look (preH fp) n ≠ none → b ∉ Lc n := by
    rintro b ⟨nm, h1, h2, h3⟩
    refine ⟨(hl.ok.rh.blk nm h1 b h3).1, fun n hn hbn => ?_⟩
    obtain ⟨x, hx, rfl, h4⟩ := preS n hn
    exact hl.ok.rh.dis nm (rnm σ x.1) h1 (by rw [preR _ hn]; exact hn) (fun he => h2 ⟨x, hx, he⟩) b h3 hbn
  have hokc : Ok ec (blks Lc (preH fp)) (look (preH fp)) Lc := {
    size0 := Nat.le_refl _
    io0 := SameIo.refl _
    fr := fun b hb' => by
      rcases hb' with h1 | h1 | h1
      · have h2 := hl.ok.fr b (.inl h1)
        refine ⟨Nat.lt_of_lt_of_le h2.1 hl.ok.size0, fun hm => ?_⟩
        obtain ⟨n, h3, h4⟩ := mem_blks hm
        exact (hl.ok.rh.blk (rnm σ n) (by rw [preR n h3]; exact h3) b h4).2.1 h1
      · have h2 := hl.ok.fr b (.inr h1)
        refine ⟨Nat.lt_of_lt_of_le h2.1 hl.ok.size0, fun hm => ?_⟩
        obtain ⟨n, h3, h4⟩ := mem_blks hm
        exact (hl.ok.rh.blk (rnm σ n) (by rw [preR n h3]; exact h3) b h4).2.2 h1
      · refine ⟨(hVl b h1).1, fun hm => ?_⟩
        obtain ⟨n, h3, h4⟩ := mem_blks hm
        exact (hVl b h1).2 n h3 h4
    keep0 := fun b _ _ => rfl
    own0 := fun n hn b hb' => .inl (blks_mem hn hb')
    rh := {
      row := fun n row hr => by
        have hn : look (preH fp) n ≠ none := by simp [hr]
        obtain ⟨x, hx, rfl, h4⟩ := preS n hn
        have h5 := hl.ok.rh.row (rnm σ x.1) row (by rw [preR _ hn, hr])
        have h6 := (hnb x hx).1 row (by rw [h4, hr])
        unfold RowAt RowSp at h5 ⊢
        rw [φc _ hn]
        have h5' : (match φ (rnm σ x.1) with | .dead => False | .nilp => row.2 = [] ∧ Lf (rnm σ x.1) = [] | .at p => p.sz = row.1 ∧ OwnBlk w p row.2.length ∧ ∃ Lr, RRows e w p.block p.off p.sz row.2 Lr ∧ Lf (rnm σ x.1) = p.block :: Lr) := h5
        cases hq : φ (rnm σ x.1) with
        | dead => rw [hq] at h5'; exact h5'
        | nilp => rw [hq] at h5'; exact h5'
        | «at» p =>
          rw [hq] at h5'
          obtain ⟨g1, g2, Lr, g3, g4⟩ := h5'
          exact ⟨g1, g2, Lr, RRows_nb hsee row.2 (fun b _ => rfl) h6 (fun _ => rfl) g3, g4⟩
      nodup := fun n hn => hl.ok.rh.nodup _ (by rw [preR n hn]; exact hn)
      blk := fun n hn b hb' => by
        have h1 := hl.ok.rh.blk (rnm σ n) (by rw [preR n hn]; exact hn) b hb'
        refine ⟨h1.1, h1.2.1, fun hbo => ?_⟩
        rcases hbo with h2 | h2
        · exact h1.2.2 h2
        · exact (hVl b h2).2 n hn hb'
      dis := fun n m hn hm hne b hb' => by
        refine hl.ok.rh.dis _ _ (by rw [preR n hn]; exact hn) (by rw [preR m hm]; exact hm) (fun he => hne ?_) b hb'
        obtain ⟨x, hx, rfl, _⟩ := preS n hn
        obtain ⟨y, hy, rfl, _⟩ := preS m hm
        exact rinj x hx y hy he
      dead := fun n hn => by
        show (if look (preH fp) n ≠ none then φ (rnm σ n) else Spot.dead) = Spot.dead
        rw [if_neg (by simp [hn])] } }
  -- the call
  simp only [chkOp] at hchk
  split at hchk
  · rename_i g args ats hop
    simp only [Bool.and_eq_true, beq_iff_eq] at hchk
    obtain ⟨rfl, hchk⟩ := hchk
    have hargs := RVs_args (e := e) (ρ := lookT t) (a := a) hl.tm args.toList xs hchk
    have hargs' : RVs ec vargs (args.toList.map a.eval) [] := by
      refine nilL_ok hv (hand_ok hlend hsee rfl hl.ok.rh (fun nm h1 h2 b h3 => ⟨nm, h1, h2, h3⟩) ?_ ps _ hvo hargs)
      rintro n ⟨x, hx, h1, rfl, h3⟩
      rw [h3]
      exact φc _ (by rw [look_preH hnd0 hx]; exact h1)
    unfold Oper.wp
    rw [run_enter hop hc.1, Oper.upon_enter]
    have hcs : args.map a.eval = (args.toList.map a.eval).toArray := by rw [← Array.toList_map, Array.toArray_toList]
    rw [hcs]
    refine Calls.mono (hc.2 ec Lc _ rfl rfl hokc hargs') ?_
    intro en w' hen
    cases en with
    | panicked ch => exact hen.elim
    | outgrown => exact hen.elim
    | returned v =>
      obtain ⟨e2, Lf2, L, rfl, T, hrv, hLn, hLb, hLd⟩ := hen
      let res' := renV (rnm σ) res
      let opn := (openV n1 res').2.1
      let cfp : FP := fp.map (fun x => (rnm σ x.1, x.2)) ++ fresh opn
      -- the names that come out of the call
      let φ2 : Nat → Spot := fun n => match inv (rnm σ) fp n with | some k => e2.φ k | none => φ n
      have φ2in : ∀ x ∈ fp, φ2 (rnm σ x.1) = e2.φ x.1 := fun x hx => by
        show (match inv (rnm σ) fp (rnm σ x.1) with | some k => e2.φ k | none => φ (rnm σ x.1)) = e2.φ x.1
        rw [inv_some hnd hx]
      have φ2out : ∀ n, n ∉ fp.map (fun x => rnm σ x.1) → φ2 n = φ n := fun n hn => by
        show (match inv (rnm σ) fp n with | some k => e2.φ k | none => φ n) = φ n
        rw [inv_none hn]
      let e2' : Env := B.env e2.w φ2
      have hsee2 : ∀ ψ : Nat → Spot, Sees e2 (B.env e2.w ψ) := fun ψ => { num := T.num.symm, fr := fun b hb' => (by rw [T.Fr] at hb'; exact hb'), cells := fun b hb' o => (by
        rw [T.Fr] at hb'
        rw [T.w0]
        exact (hfz b (.inl hb') o).symm) }
      have hrv2 : RV e2' res' v L := by
        refine renV_ok (hsee2 φ2) (A := fun k => ∃ x ∈ fp, x.1 = k ∧ x.2.2 ≠ none) ?_ res (fun b _ => rfl) hres hrv
        rintro n ⟨x, hx, rfl, _⟩
        exact φ2in x hx
      have hbres : bnd (· < n1) res' := renV_bnd (A := fun k => ∃ x ∈ fp, x.1 = k ∧ x.2.2 ≠ none) (fun n ⟨x, hx, he, _⟩ => by rw [← he]; exact (hpre x hx).2.2) res hres
      obtain ⟨S, s1, s2, s3⟩ := openV_ok (A := (· < n1)) res' n1 hbres hrv2
      have hle := openV_le res' n1
      have hSnd : (S.map (·.1)).Nodup := by rw [s1]; exact openV_nodup res' n1
      have Sname : ∀ x ∈ S, n1 ≤ x.1 := fun x hx => by
        have hm : x.1 ∈ S.map (·.1) := List.mem_map.2 ⟨x, hx, rfl⟩
        rw [s1] at hm
        obtain ⟨z, hz, hzx⟩ := List.mem_map.1 hm
        rw [← hzx]
        exact (hle.2 z hz).1
      have Sout : ∀ n, n < n1 → n ∉ S.map (·.1) := fun n hn hm => by
        obtain ⟨x, hx, rfl⟩ := List.mem_map.1 hm
        have := Sname x hx
        omega
      let e3 : Env := B.env e2.w (spotIn S φ2)
      have φ3in : ∀ x ∈ S, e3.φ x.1 = x.2.1 := fun x hx => by
        show spotIn S φ2 x.1 = x.2.1
        unfold spotIn
        rw [find_mem hSnd hx]
      have φ3out : ∀ n, n ∉ S.map (·.1) → e3.φ n = φ2 n := fun n hn => by
        show spotIn S φ2 n = φ2 n
        unfold spotIn
        rw [find_none hn]
      have hkeep : Keeps e2' e3 (· < n1) L := { num := rfl, fr := fun m b hb' => by cases m <;> exact hb', cells := fun b _ o => rfl, φ := fun n hn => .inl (φ3out n (Sout n hn)), own := fun b _ => rfl }
      obtain ⟨g1, g2⟩ := s3 e3 φ3in hkeep
      let Lf3 : Nat → List Nat := blksIn S (fun n => match inv (rnm σ) fp n with | some k => Lf2 k | none => Lf n)
      have L3in : ∀ x ∈ S, Lf3 x.1 = x.2.2 := fun x hx => by
        show blksIn S _ x.1 = x.2.2
        unfold blksIn
        rw [find_mem hSnd hx]
      have L3fp : ∀ x ∈ fp, Lf3 (rnm σ x.1) = Lf2 x.1 := fun x hx => by
        show blksIn S _ (rnm σ x.1) = Lf2 x.1
        unfold blksIn
        rw [find_none (Sout _ (hpre x hx).2.2)]
        simp only [inv_some hnd hx]
      have φ3fp : ∀ x ∈ fp, e3.φ (rnm σ x.1) = e2.φ x.1 := fun x hx => by rw [φ3out _ (Sout _ (hpre x hx).2.2), φ2in x hx]
      have cnd : (cfp.map (·.1)).Nodup := by
        show ((fp.map (fun x => (rnm σ x.1, x.2)) ++ fresh opn).map (·.1)).Nodup
        rw [List.map_append]
        refine List.nodup_append.2 ⟨by simpa [Function.comp_def] using hnd, by simpa [fresh, Function.comp_def] using openV_nodup res' n1, ?_⟩
        intro x hx y hy hxy
        subst hxy
        simp only [List.map_map, List.mem_map, Function.comp] at hx
        obtain ⟨z, hz, rfl⟩ := hx
        simp only [fresh, List.map_map, List.mem_map, Function.comp] at hy
        obtain ⟨u, hu, hu2⟩ := hy
        have h1 := (hle.2 u hu).1
        have h2 := (hpre z hz).2.2
        omega
      have memc : ∀ n, n ∈ cfp.map (·.1) ↔ (∃ x ∈ fp, n = rnm σ x.1) ∨ ∃ y ∈ opn, n = y.1 := by
        intro n
        show n ∈ (fp.map (fun x => (rnm σ x.1, x.2)) ++ fresh opn).map (·.1) ↔ _
        simp only [List.map_append, List.mem_append, List.map_map, fresh, List.mem_map, Function.comp]
        constructor
        · rintro (⟨x, hx, rfl⟩ | ⟨x, hx, rfl⟩)
          · exact .inl ⟨x, hx, rfl⟩
          · exact .inr ⟨x, hx, rfl⟩
        · rintro (⟨x, hx, rfl⟩ | ⟨x, hx, rfl⟩)
          · exact .inl ⟨x, hx, rfl⟩
          · exact .inr ⟨x, hx, rfl⟩
      have upfp : ∀ x ∈ fp, upH (look h) cfp (rnm σ x.1) = x.2.2 := fun x hx =>
        upH_nodup (x := (rnm σ x.1, x.2)) cnd (List.mem_append_left _ (List.mem_map.2 ⟨x, hx, rfl⟩))
      have upop : ∀ y ∈ opn, upH (look h) cfp y.1 = some y.2 := fun y hy =>
        upH_nodup (x := (y.1, none, some y.2)) cnd (List.mem_append_right _ (List.mem_map.2 ⟨y, hy, rfl⟩))
      have opnone : ∀ y ∈ opn, look h y.1 = none := fun y hy => hb.new (Nat.le_trans hn1 (hle.2 y hy).1)
      have opS : ∀ y ∈ opn, ∃ x ∈ S, x.1 = y.1 := fun y hy => by
        have hm : y.1 ∈ opn.map (·.1) := List.mem_map.2 ⟨y, hy, rfl⟩
        rw [← s1] at hm
        obtain ⟨x, hx, hxy⟩ := List.mem_map.1 hm
        exact ⟨x, hx, hxy⟩
      have own2 : ∀ b, (e2.w.heap.size > b ∧ (w.heap.size ≤ b ∨ ∃ m, m ∈ fp.map (·.1) ∧ look (preH fp) m ≠ none ∧ b ∈ Lc m)) → b < e2.w.heap.size ∧ (w.heap.size ≤ b ∨ ∃ m, m ∈ cfp.map (·.1) ∧ look h m ≠ none ∧ b ∈ Lf m) := by
        rintro b ⟨h1, h2⟩
        refine ⟨h1, h2.imp id ?_⟩
        rintro ⟨m, h3, h4, h5⟩
        obtain ⟨x, hx, rfl⟩ := List.mem_map.1 h3
        exact ⟨rnm σ x.1, (memc _).2 (.inl ⟨x, hx, rfl⟩), by rw [preR _ h4]; exact h4, h5⟩
      have TT : Turns e (look h) Lf (fun n => n ∈ cfp.map (·.1)) e3 (upH (look h) cfp) Lf3 := {
        num := rfl
        w0 := rfl
        Fr := rfl
        Bo := rfl
        io := T.io
        size := T.size
        keep := fun b h1 h2 => T.keep b h1 (fun m hm hp hbm => by
          obtain ⟨x, hx, rfl⟩ := List.mem_map.1 hm
          exact h2 (rnm σ x.1) ((memc _).2 (.inl ⟨x, hx, rfl⟩)) (by rw [preR _ hp]; exact hp) hbm)
        φ := fun n hn => by
          have h1 : n ∉ S.map (·.1) := fun hm => by
            rw [s1] at hm
            obtain ⟨y, hy, rfl⟩ := List.mem_map.1 hm
            exact hn ((memc _).2 (.inr ⟨y, hy, rfl⟩))
          rw [φ3out n h1, φ2out n (fun hm => by
            obtain ⟨x, hx, rfl⟩ := List.mem_map.1 hm
            exact hn ((memc _).2 (.inl ⟨x, hx, rfl⟩)))]
          rfl
        φF := fun n hn hp => by
          rcases (memc n).1 hn with ⟨x, hx, rfl⟩ | ⟨y, hy, rfl⟩
          · rw [φ3fp x hx]
            have hpx : look (preH fp) x.1 ≠ none := by rw [look_preH hnd0 hx, ← (hpre x hx).1]; exact hp
            rcases T.φF x.1 (List.mem_map.2 ⟨x, hx, rfl⟩) hpx with h1 | h1
            · rw [h1, φc _ hpx]; exact .inl rfl
            · exact .inr h1
          · exact absurd (opnone y hy) hp
        rest := fun n hn => upH_none hn
        row := fun n row hn hr => by
          rcases (memc n).1 hn with ⟨x, hx, rfl⟩ | ⟨y, hy, rfl⟩
          · rw [upfp x hx] at hr
            have h1 := T.row x.1 row (List.mem_map.2 ⟨x, hx, rfl⟩) (by rw [look_postH hnd0 hx, hr])
            have h2 := (hnb x hx).2 row hr
            rw [L3fp x hx]
            unfold RowAt RowSp at h1 ⊢
            rw [φ3fp x hx]
            cases hq : e2.φ x.1 with
            | dead => rw [hq] at h1; exact h1
            | nilp => rw [hq] at h1; exact h1
            | «at» p =>
              rw [hq] at h1
              obtain ⟨k1, k2, Lr, k3, k4⟩ := h1
              exact ⟨k1, k2, Lr, RRows_nb (hsee2 _) row.2 (fun b _ => rfl) h2 (fun _ => rfl) k3, k4⟩
          · rw [upop y hy] at hr
            simp only [Option.some.injEq] at hr
            subst hr
            obtain ⟨x, hx, hxy⟩ := opS y hy
            have h1 := g2 x hx y.2 (by rw [hxy]; exact hy)
            rw [← hxy]
            unfold RowAt
            rw [φ3in x hx, L3in x hx]
            exact h1
        nodup := fun n hn hp => by
          rcases (memc n).1 hn with ⟨x, hx, rfl⟩ | ⟨y, hy, rfl⟩
          · rw [upfp x hx] at hp
            rw [L3fp x hx]
            exact T.nodup x.1 (List.mem_map.2 ⟨x, hx, rfl⟩) (by rw [look_postH hnd0 hx]; exact hp)
          · obtain ⟨x, hx, hxy⟩ := opS y hy
            rw [← hxy, L3in x hx]
            rw [s2] at hLn
            exact nodup_flatMap_mem (f := fun (x : Nat × Spot × List Nat) => x.2.2) hLn hx
        blk := fun n hn hp b hb' => by
          rcases (memc n).1 hn with ⟨x, hx, rfl⟩ | ⟨y, hy, rfl⟩
          · rw [upfp x hx] at hp
            rw [L3fp x hx] at hb'
            exact own2 b (T.blk x.1 (List.mem_map.2 ⟨x, hx, rfl⟩) (by rw [look_postH hnd0 hx]; exact hp) b hb')
          · obtain ⟨x, hx, hxy⟩ := opS y hy
            rw [← hxy, L3in x hx] at hb'
            exact own2 b (hLb b (by rw [s2]; exact List.mem_flatMap.2 ⟨x, hx, hb'⟩))
        dis := fun n m hn hm hp hq hne b hb1 hb2 => by
          rcases (memc n).1 hn with ⟨x, hx, rfl⟩ | ⟨y, hy, rfl⟩ <;> rcases (memc m).1 hm with ⟨x', hx', rfl⟩ | ⟨y', hy', rfl⟩
          · rw [upfp x hx] at hp
            rw [upfp x' hx'] at hq
            rw [L3fp x hx] at hb1
            rw [L3fp x' hx'] at hb2
            exact T.dis x.1 x'.1 (List.mem_map.2 ⟨x, hx, rfl⟩) (List.mem_map.2 ⟨x', hx', rfl⟩) (by rw [look_postH hnd0 hx]; exact hp) (by rw [look_postH hnd0 hx']; exact hq) (fun he => hne (by rw [he])) b hb1 hb2
          · rw [upfp x hx] at hp
            rw [L3fp x hx] at hb1
            obtain ⟨z, hz, hzy⟩ := opS y' hy'
            rw [← hzy, L3in z hz] at hb2
            exact hLd b (by rw [s2]; exact List.mem_flatMap.2 ⟨z, hz, hb2⟩) x.1 (List.mem_map.2 ⟨x, hx, rfl⟩) (by rw [look_postH hnd0 hx]; exact hp) hb1
          · rw [upfp x' hx'] at hq
            rw [L3fp x' hx'] at hb2
            obtain ⟨z, hz, hzy⟩ := opS y hy
            rw [← hzy, L3in z hz] at hb1
            exact hLd b (by rw [s2]; exact List.mem_flatMap.2 ⟨z, hz, hb1⟩) x'.1 (List.mem_map.2 ⟨x', hx', rfl⟩) (by rw [look_postH hnd0 hx']; exact hq) hb2
          · obtain ⟨z, hz, hzy⟩ := opS y hy
            obtain ⟨z', hz', hzy'⟩ := opS y' hy'
            rw [← hzy, L3in z hz] at hb1
            rw [← hzy', L3in z' hz'] at hb2
            rw [s2] at hLn
            exact flatMap_apart hLn hz hz' (fun he => hne (by rw [← hzy, ← hzy', he])) hb1 hb2
        dead := fun n hn hp => by
          rcases (memc n).1 hn with ⟨x, hx, rfl⟩ | ⟨y, hy, rfl⟩
          · rw [upfp x hx] at hp
            rw [φ3fp x hx]
            exact T.dead x.1 (List.mem_map.2 ⟨x, hx, rfl⟩) (by rw [look_postH hnd0 hx]; exact hp)
          · rw [upop y hy] at hp
            simp at hp }
      exact k e3 Lf3 _ TT g1
  · simp at hchk

/-- The same, where nothing is created but the result. -/
theorem call_ok0 {f nx : Nat} {ps : List Bool} {xs : List Arg} {t : List (Nat × AV)} {h : Heap} {fp : FP} {res : AV} {vargs : List AV} (σ : List (Nat × Nat)) (hc : CallOk P num f vargs fp res)
    (hv : nilL (hand (ixm σ) h ps (xs.map (Arg.ev (lookT t)))) vargs)
    (hvo : handOk h (fun n => ∃ x ∈ fp, x.2.1 ≠ none ∧ n = rnm σ x.1 ∧ ixm σ n = x.1) (fun n => ∃ x ∈ fp, n = rnm σ x.1) ps (xs.map (Arg.ev (lookT t))))
    (hnd : (fp.map (fun x => rnm σ x.1)).Nodup) (hpre : ∀ x ∈ fp, look h (rnm σ x.1) = x.2.1 ∧ (x.2.1 = none → nx ≤ rnm σ x.1) ∧ rnm σ x.1 < nx)
    (hnb : ∀ x ∈ fp, (∀ r, x.2.1 = some r → nbr r.2) ∧ (∀ r, x.2.2 = some r → nbr r.2)) (hres : okV (fun k => ∃ x ∈ fp, x.1 = k ∧ x.2.2 ≠ none) res) :
    CallR P num (.call f ps xs) t h nx (openV nx (renV (rnm σ) res)).1 (fp.map (fun x => (rnm σ x.1, x.2)) ++ fresh (openV nx (renV (rnm σ) res)).2.1) (openV nx (renV (rnm σ) res)).2.2 :=
  call_ok σ hc hv hvo hnd hpre hnb hres (Nat.le_refl _)

end
end Go.Sep
