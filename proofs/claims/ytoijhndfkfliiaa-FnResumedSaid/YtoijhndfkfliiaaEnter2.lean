/- A contract is proved by running the body. -/
import Derived.Test.YtoijhndfkfliiaaEnter
namespace Go.Sep
set_option linter.unusedVariables false
set_option linter.unusedSimpArgs false

def chkRes (P : Program) : List ResultVar → List MRes → Bool
  | [], [] => true
  | .tmp t :: rs, .t n :: ms => t == n && chkRes P rs ms
  | .cell a t :: rs, .cell b n ag :: ms => a == b && sizeIs P t n && aggB P t == some ag && (ag || n == 1) && chkRes P rs ms
  | _, _ => false

def paramT : Nat → List AV → List (Nat × AV)
  | _, [] => []
  | n, v :: vs => (n, v) :: paramT (n + 1) vs

theorem lookT_paramT : ∀ (vs : List AV) (k n : Nat), lookT (paramT k vs) n = if k ≤ n then vs.getD (n - k) .any else .any
  | [], k, n => by simp [paramT, lookT]
  | v :: vs, k, n => by
    simp only [paramT, lookT, lookT_paramT vs]
    by_cases h : n = k
    · subst h; simp
    · rw [if_neg h]
      by_cases h2 : k + 1 ≤ n
      · rw [if_pos h2, if_pos (by omega), show n - k = (n - (k + 1)) + 1 by omega]
        rfl
      · rw [if_neg h2, if_neg (by omega)]

def resGet (tmps : Array Value) : ResultVar → Sem Value
  | .tmp t => pure (tmps.getD t undef)
  | .cell a t => do loadVar t (← asAddr (tmps.getD a undef))

theorem results_eq (fn : Func) (tmps : Array Value) : results fn tmps = (do
    let vs ← fn.results.mapM (resGet tmps)
    pure (if h : vs.size = 1 then vs[0] else .tuple vs)) := by
  unfold results
  congr 1

section
variable {P : Program}

/-- Results, as they are read. -/
theorem results_run {e : Env} {L0 : List Nat} {t : List (Nat × AV)} {h : Heap} {Lf : Nat → List Nat} {tmps : Array Value} (hk : Ok e L0 (look h) Lf) (ht : ∀ n, RV e (lookT t n) (tmps.getD n undef) []) :
    ∀ (rs : List ResultVar) (ms : List MRes), chkRes P rs ms = true → allP (ms.map fun r => (resAV t h r).2) →
      ∃ vs : List Value, (rs.mapM (resGet tmps)).run P e.w = .ok vs e.w ∧ RVs e (ms.map fun r => (resAV t h r).1) vs []
  | [], [], _, _ => ⟨[], by simp, by simp [RVs]⟩
  | [], m :: ms, hc, _ => by simp [chkRes] at hc
  | .tmp x :: rs, .t n :: ms, hc, ha => by
    simp only [chkRes, Bool.and_eq_true, beq_iff_eq] at hc
    obtain ⟨rfl, hc⟩ := hc
    obtain ⟨vs, h1, h2⟩ := results_run hk ht rs ms hc ha.2
    refine ⟨tmps.getD x undef :: vs, ?_, ?_⟩
    · rw [List.mapM_cons]
      simp only [resGet, Sem.run_bind, Sem.run_pure, Result.andThen_ok, h1]
    · simp only [List.map_cons, RVs]
      exact ⟨_, vs, [], [], rfl, ht x, h2, rfl⟩
  | .cell x ty :: rs, .cell a n ag :: ms, hc, ha => by
    simp only [chkRes, Bool.and_eq_true, beq_iff_eq, Bool.or_eq_true] at hc
    obtain ⟨⟨⟨⟨rfl, hsz⟩, hag⟩, h1n⟩, hc⟩ := hc
    obtain ⟨vs, h1, h2⟩ := results_run hk ht rs ms hc ha.2
    have ha1 : (resAV t h (.cell x n ag)).2 := ha.1
    have hx := ht x
    have key : ∃ v, (resGet tmps (.cell x ty)).run P e.w = .ok v e.w ∧ RV e (resAV t h (.cell x n ag)).1 v [] := by
      unfold resAV at ha1 ⊢
      simp only at ha1 ⊢
      split at ha1
      · rename_i nm hnm
        rw [hnm] at hx
        split at ha1
        · rename_i sz cells hrow
          obtain ⟨i, hi, his⟩ := sizeIs_some hsz
          obtain ⟨p, hp, hv⟩ := ptr_at (hk.rh.row nm _ hrow) hx
          have hr := hk.rh.row nm _ hrow
          unfold RowAt RowSp at hr
          rw [hp] at hr
          obtain ⟨hq, ho, Lr, hrr, hLr⟩ := hr
          simp only [RRows] at hrr
          obtain ⟨us, L1, L2, ⟨e1, e2⟩, e3, e4, e5, _, _⟩ := hrr
          have hL1 : L1 = [] := by
            have key : ∀ (l : List AV) (us : List Value) (M : List Nat), (∀ c ∈ l, isOwn c = false) → l.all cellOk = true → RVs e l us M → M = [] := by
              intro l
              induction l with
              | nil => intro us M _ _ h; simp only [RVs] at h; exact h.2
              | cons c l ih =>
                intro us M hfc hok h
                simp only [RVs] at h
                obtain ⟨v, vs', M1, M2, rfl, k1, k2, rfl⟩ := h
                simp only [List.all_cons, Bool.and_eq_true] at hok
                have := cell_free hok.1 (fun sz rows he => by have := hfc c (by simp); rw [he] at this; simp [isOwn] at this) k1
                rw [this, ih vs' M2 (fun x hx => hfc x (by simp [hx])) hok.2 k2]
                rfl
            exact key cells us L1 ha1.2 e2 e5
          subst hL1
          refine ⟨_, ?_, RV_loaded h1n ha1.1 e5⟩
          simp only [resGet, hv, Sem.run_bind, asAddr, Sem.run_pure, Result.andThen_ok]
          refine run_loadVar hag hi (fun hf => by rcases h1n with h | h <;> simp_all) (by rw [e3, his, ← ha1.1, e1]) (fun j hj => ?_)
          have := e4 j (by rw [← e1, ha1.1, ← his]; exact hj)
          simpa using this
        · exact ha1.elim
      · exact ha1.elim
    obtain ⟨v, k1, k2⟩ := key
    refine ⟨v :: vs, ?_, ?_⟩
    · rw [List.mapM_cons]
      simp only [Sem.run_bind]
      rw [k1]
      simp only [Result.andThen_ok, h1, Sem.run_pure]
    · simp only [List.map_cons, RVs]
      exact ⟨_, vs, [], [], rfl, k2, h2, rfl⟩
  | .tmp _ :: _, [], hc, _ => by simp [chkRes] at hc
  | .tmp _ :: _, .cell .. :: _, hc, _ => by simp [chkRes] at hc
  | .cell .. :: _, [], hc, _ => by simp [chkRes] at hc
  | .cell .. :: _, .t _ :: _, hc, _ => by simp [chkRes] at hc

theorem preH_post {fp : FP} {n : Nat} : look (preH fp) n ≠ none → n ∈ fp.map (·.1) := by
  induction fp with
  | nil => simp [preH, look]
  | cons x fp ih =>
    obtain ⟨m, a, b⟩ := x
    intro h
    cases a with
    | none => simp only [preH] at h; exact List.mem_cons_of_mem _ (ih h)
    | some r =>
      simp only [preH, look] at h
      by_cases hn : n = m
      · simp [hn]
      · rw [if_neg hn] at h; exact List.mem_cons_of_mem _ (ih h)

theorem postH_mem {fp : FP} {n : Nat} : look (postH fp) n ≠ none → n ∈ fp.map (·.1) := by
  induction fp with
  | nil => simp [postH, look]
  | cons x fp ih =>
    obtain ⟨m, a, b⟩ := x
    intro h
    cases b with
    | none => simp only [postH] at h; exact List.mem_cons_of_mem _ (ih h)
    | some r =>
      simp only [postH, look] at h
      by_cases hn : n = m
      · simp [hn]
      · rw [if_neg hn] at h; exact List.mem_cons_of_mem _ (ih h)

theorem mem_blks {Lf : Nat → List Nat} {h : Heap} {b : Nat} : b ∈ blks Lf h → ∃ n, look h n ≠ none ∧ b ∈ Lf n := by
  induction h with
  | nil => simp [blks]
  | cons x h ih =>
    intro hb
    simp only [blks, List.flatMap_cons, List.mem_append] at hb
    rcases hb with hb | hb
    · exact ⟨x.1, by simp [look], hb⟩
    · obtain ⟨n, h1, h2⟩ := ih hb
      refine ⟨n, ?_, h2⟩
      obtain ⟨m, r⟩ := x
      simp only [look]
      split
      · simp
      · exact h1

theorem blks_mem {Lf : Nat → List Nat} {h : Heap} {n b : Nat} (hn : look h n ≠ none) (hb : b ∈ Lf n) : b ∈ blks Lf h := by
  induction h with
  | nil => simp [look] at hn
  | cons x h ih =>
    obtain ⟨m, r⟩ := x
    simp only [blks, List.flatMap_cons, List.mem_append]
    by_cases he : n = m
    · subst he; exact .inl hb
    · simp only [look] at hn
      rw [if_neg he] at hn
      exact .inr (ih hn)

theorem nilL_length : ∀ {cs ds : List AV}, nilL cs ds → ds.length = cs.length
  | [], ds, h => by simp only [nilL] at h; simp [h]
  | c :: cs, ds, h => by
    simp only [nilL] at h
    obtain ⟨d, ds', rfl, _, h2⟩ := h
    simp [nilL_length h2]

/-- What is left at the end is what the contract tells. -/
theorem post_of_fin {num : Nat → Nat} {fn : Func} {rs : List MRes} {e : Env} {Lf0 : Nat → List Nat} {fp : FP} {res : AV} {nt : Nat} {a : Act} {w : World} {s : AS} (hr : chkRes P fn.results.toList rs = true) (hw0 : e.w0 = e.w)
    (hk0 : Ok e (blks Lf0 (preH fp)) (look (preH fp)) Lf0)
    (hfin : FinS rs fp res s) (hs : St { num := e.num, w0 := e.w, Fr := e.Fr, Bo := e.Bo, L0 := blks Lf0 (preH fp), φ0 := e.φ, nt := nt } s a w) :
    a.defers = [] ∧ ∃ v, (results fn a.tmps).run P w = .ok v w ∧ Post e Lf0 fp res v w := by
  cases s with
  | bad => exact hs.elim
  | mk t h nx =>
    obtain ⟨_, hdef, hb, hbt, φ, Lf, hl⟩ := hs
    obtain ⟨f1, f2, ⟨vs, f3, f4⟩, f5⟩ := hfin
    refine ⟨hdef, ?_⟩
    let B : Base := { num := e.num, w0 := e.w, Fr := e.Fr, Bo := e.Bo, L0 := blks Lf0 (preH fp), φ0 := e.φ, nt := nt }
    have hl' : Lies B t h nx a w φ Lf := hl
    obtain ⟨us, r1, r2⟩ := results_run hl'.ok hl'.tm fn.results.toList rs hr f1
    obtain ⟨L, g1, g2⟩ := giveL_ok hl'.ok.rh _ h (fun n r hn => hn) f2 r2
    have g3 := nilL_ok f3 g1
    let h' := (giveL h (rs.map fun r => (resAV t h r).1)).2.1
    have hlen : us.length = vs.length := RVs_length g3
    have hrun : (results fn a.tmps).run P w = .ok (if us.length = 1 then us.getD 0 undef else .tuple us.toArray) w := by
      rw [results_eq]
      simp only [Sem.run_bind]
      rw [Array.mapM_eq_mapM_toList, Sem.run_map]
      have r1' : (fn.results.toList.mapM (resGet a.tmps)).run P w = .ok us w := r1
      rw [r1']
      simp only [Result.andThen_ok, Sem.run_pure]
      by_cases h1 : us.length = 1
      · rw [if_pos h1, dif_pos (by simpa using h1)]
        congr 1
        cases us with
        | nil => simp at h1
        | cons u us => rfl
      · rw [if_neg h1, dif_neg (by simpa using h1)]
    refine ⟨_, hrun, ?_⟩
    let F : Nat → Prop := fun n => n ∈ fp.map (·.1)
    classical
    let e'' : Env := B.env w (fun n => if F n ∧ look (postH fp) n ≠ none then φ n else .dead)
    have hke : Keeps (B.env w φ) e'' (fun _ => True) (L ++ []) :=
      { num := rfl, fr := fun m b hb => by cases m <;> exact hb, cells := fun b _ o => rfl, φ := fun n _ => by
          by_cases hn : F n ∧ look (postH fp) n ≠ none
          · left; show (if F n ∧ look (postH fp) n ≠ none then φ n else Spot.dead) = φ n; rw [if_pos hn]
          · right; show (if F n ∧ look (postH fp) n ≠ none then φ n else Spot.dead) = Spot.dead; rw [if_neg hn], own := fun b _ => rfl }
    have hke' : ∀ M : List Nat, Keeps (B.env w φ) e'' (fun _ => True) M := fun M => { hke with own := fun b _ => rfl }
    have hres : RV e'' res (if us.length = 1 then us.getD 0 undef else .tuple us.toArray) L := by
      refine RV_keep res (hke' L) (bnd_true _) ?_
      rw [f4]
      by_cases h1 : us.length = 1
      · rw [if_pos h1]
        cases vs with
        | nil => rw [hlen] at h1; simp at h1
        | cons v vs =>
          cases vs with
          | nil =>
            simp only [RVs] at g3
            obtain ⟨u, us', L1, L2, rfl, k1, ⟨rfl, rfl⟩, rfl⟩ := g3
            simpa [oneOr] using k1
          | cons v' vs => rw [hlen] at h1; simp at h1
      · rw [if_neg h1]
        have : oneOr vs = .tup vs := by
          cases vs with
          | nil => rfl
          | cons v vs =>
            cases vs with
            | nil => exact absurd (hlen.trans rfl) h1
            | cons v' vs => rfl
        rw [this]
        simp only [RV]
        exact ⟨us, rfl, g3⟩
    have hrow : ∀ nm, F nm → look (postH fp) nm = look h' nm := by
      intro nm hn
      obtain ⟨x, hx, rfl⟩ := List.mem_map.1 hn
      exact (f5 x hx).symm
    have hleft : ∀ nm, F nm → look (postH fp) nm ≠ none → look h nm = look (postH fp) nm := by
      intro nm hn hp
      rw [hrow nm hn] at hp ⊢
      cases hh : look h' nm with
      | none => exact absurd hh hp
      | some r => exact g2.left nm r hh
    have hblk : ∀ nm, look h nm ≠ none → ∀ b ∈ Lf nm, b < w.heap.size ∧ (e.w.heap.size ≤ b ∨ ∃ m, F m ∧ look (preH fp) m ≠ none ∧ b ∈ Lf0 m) := by
      intro nm hn b hb
      refine ⟨(hl'.ok.rh.blk nm hn b hb).1, ?_⟩
      rcases hl'.ok.own0 nm hn b hb with h1 | h1
      · obtain ⟨m, h2, h3⟩ := mem_blks h1
        exact .inr ⟨m, preH_post h2, h2, h3⟩
      · exact .inl h1
    have hdead0 : ∀ nm, ¬ F nm → e.φ nm = .dead := by
      intro nm hn
      refine hk0.rh.dead nm ?_
      cases hh : look (preH fp) nm with
      | none => rfl
      | some r => exact absurd (preH_post (by simp [hh])) hn
    refine ⟨e'', Lf, L, rfl, ?_, hres, g2.nodup, ?_, ?_⟩
    · exact {
        num := rfl
        w0 := hw0.symm
        Fr := rfl
        Bo := rfl
        io := hl'.ok.io0
        size := hl'.ok.size0
        keep := fun b h1 h2 => by
          refine hl'.ok.keep0 b h1 (fun hm => ?_)
          obtain ⟨m, h3, h4⟩ := mem_blks hm
          exact h2 m (preH_post h3) h3 h4
        φ := fun nm hn => by
          rw [hdead0 nm hn]
          show (if F nm ∧ look (postH fp) nm ≠ none then φ nm else Spot.dead) = Spot.dead
          rw [if_neg (fun hh => hn hh.1)]
        φF := fun nm hn hp => by
          show (if F nm ∧ look (postH fp) nm ≠ none then φ nm else Spot.dead) = e.φ nm ∨ (if F nm ∧ look (postH fp) nm ≠ none then φ nm else Spot.dead) = Spot.dead
          split
          · refine (hl'.φ0 nm ?_).2
            intro hd
            have hd' : e.φ nm = .dead := hd
            cases hh : look (preH fp) nm with
            | none => exact hp hh
            | some r =>
              have := hk0.rh.row nm r hh
              unfold RowAt RowSp at this
              rw [hd'] at this
              exact this
          · exact .inr rfl
        rest := fun nm hn => by
          have h1 : look (preH fp) nm = none := by
            cases hh : look (preH fp) nm with
            | none => rfl
            | some r => exact absurd (preH_post (by simp [hh])) hn
          have h2 : look (postH fp) nm = none := by
            cases hh : look (postH fp) nm with
            | none => rfl
            | some r => exact absurd (postH_mem (by simp [hh])) hn
          rw [h1, h2]
        row := fun nm row hn hp => by
          have h1 := hleft nm hn (by simp [hp])
          have h2 := hl'.ok.rh.row nm row (by rw [h1, hp])
          refine h2.keep (hke' _) ?_ (bndr_true _)
          show (if F nm ∧ look (postH fp) nm ≠ none then φ nm else Spot.dead) = φ nm
          rw [if_pos ⟨hn, by simp [hp]⟩]
        nodup := fun nm hn hp => hl'.ok.rh.nodup nm (by rw [hleft nm hn hp]; exact hp)
        blk := fun nm hn hp b hb => hblk nm (by rw [hleft nm hn hp]; exact hp) b hb
        dis := fun n m hn hm hp hq hne b hb => hl'.ok.rh.dis n m (by rw [hleft n hn hp]; exact hp) (by rw [hleft m hm hq]; exact hq) hne b hb
        dead := fun nm hn hp => by
          show (if F nm ∧ look (postH fp) nm ≠ none then φ nm else Spot.dead) = Spot.dead
          rw [if_neg (fun hh => hh.2 hp)] }
    · intro b hb
      obtain ⟨k, h1, _, h3⟩ := g2.of b hb
      exact hblk k h1 b h3
    · intro b hb m hm hp hbm
      obtain ⟨k, h1, h2, h3⟩ := g2.of b hb
      have hm' := hleft m hm hp
      refine hl'.ok.rh.dis k m h1 (by rw [hm']; exact hp) (fun he => ?_) b h3 hbm
      subst he
      have h2' : look h' k = none := h2
      rw [hrow k hm] at hp
      exact hp h2'

/-- A contract, out of the body. -/
theorem enter {num : Nat → Nat} {f : Nat} {fn : Func} {c : Code} {m : MFn} {args : List AV} {fp : FP} {res : AV} (hf : P.funcs[num f]? = some fn) (hnm : (fn.name == "runtime.NumGoroutine") = false) (hbd : fn.body = some c) (hc : chkC P num fn.ntmps m.body c = true)
    (hr : chkRes P fn.results.toList m.results = true) (hn : args.length ≤ fn.ntmps) (hb : bnds (· < 10) args) (hh : HB (preH fp) 10)
    (hv : vc P num (Fin m.results fp res) [.code m.body] (.mk (paramT 0 args) (preH fp) 10)) : CallOk P num f args fp res := by
  refine ⟨⟨fn, hf, hnm, by rw [hbd]; rfl⟩, ?_⟩
  intro e Lf cs hnum hw0 hk hargs
  subst hnum
  have hlen := RVs_length hargs
  let B : Base := { num := e.num, w0 := e.w, Fr := e.Fr, Bo := e.Bo, L0 := blks Lf (preH fp), φ0 := e.φ, nt := fn.ntmps }
  let a0 : Act := { tmps := cs.toArray ++ Array.replicate (fn.ntmps - cs.toArray.size) undef, defers := [] }
  have he : B.env e.w e.φ = e := by
    cases e
    simp only at hw0
    subst hw0
    rfl
  have hst : St B (.mk (paramT 0 args) (preH fp) 10) a0 e.w := by
    refine ⟨?_, rfl, hh, ?_, e.φ, Lf, ?_, ?_, ?_, Nat.le_refl _⟩
    · show (cs.toArray ++ Array.replicate (fn.ntmps - cs.toArray.size) undef).size = fn.ntmps
      simp
      omega
    · intro n
      rw [lookT_paramT, if_pos (Nat.zero_le _)]
      exact bnds_getD hb _
    · rw [he]; exact hk
    · intro n
      rw [he, lookT_paramT, if_pos (Nat.zero_le _), Nat.sub_zero]
      show RV e (args.getD n .any) ((cs.toArray ++ Array.replicate (fn.ntmps - cs.toArray.size) undef).getD n undef) []
      by_cases hn' : n < args.length
      · obtain ⟨v, h1, h2⟩ := RVs_nil_get hargs n hn'
        rw [getD_get hn', Array.getD_eq_getD_getElem?, Array.getElem?_append_left (by simpa [hlen] using hn')]
        simp only [List.getElem?_toArray, h1, Option.getD_some]
        exact h2
      · have : args.getD n .any = .any := by
          rw [List.getD_eq_getElem?_getD, List.getElem?_eq_none (by omega)]; rfl
        rw [this]
        simp [RV]
    · intro n hne
      have hne' : e.φ n ≠ .dead := hne
      refine ⟨?_, .inl rfl⟩
      cases hl : look (preH fp) n with
      | none => exact absurd (hk.rh.dead n hl) hne'
      | some r => exact (hh n r hl).1
  have := vc_sound (R := fun a w => a.defers = [] ∧ ∃ v, (results fn a.tmps).run P w = .ok v w ∧ Post e Lf fp res v w) (B := B) rfl (fun s a w ⟨s1, h1, h2⟩ hs => post_of_fin (num := e.num) hr hw0 hk h2 (h1 _ _ _ hs)) _ _ (Nat.le_refl _) _ hv a0 e.w hst
  simp only [sem] at this
  refine calls_of_wp hf hbd (wp_mono (this c hc) ?_)
  rintro ex a w ⟨hex, h1, v, h2, h3⟩
  rcases hex with rfl | rfl <;> exact ⟨h1, v, h2, h3⟩

end
end Go.Sep
