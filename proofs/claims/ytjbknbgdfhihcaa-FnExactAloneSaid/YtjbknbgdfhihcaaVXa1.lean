/- Contracts of functions. -/
import Derived.Test.YtjbknbgdfhihcaaVS0
import Derived.Test.YtjbknbgdfhihcaaVV0
import Derived.Test.YtjbknbgdfhihcaaVN1
import Derived.Test.YtjbknbgdfhihcaaVlb1
namespace Go.Sep
open Go.Proofs
set_option linter.unusedSimpArgs false
set_option linter.unusedVariables false
set_option maxRecDepth 100000
open Nat renaming reduceAdd → qA, reduceMul → qB, reduceEqDiff → qC, reduceBEq → qD
open Int renaming reduceToNat → qE, reduceEq → qF, reduceLT → qG, reduceLE → qH
open List renaming getD_eq_getElem?_getD → gD
def m346 : MFn := ⟨21, [], .seq (xr [xo 6 (.mv (xi 0))]) (.blk 0 (.loop (.seq (.seq (xr [xv 7 6, xv 8 2, xo 9 (.bin .lss (.t 7) (.t 8)), xv 10 9, xg 11 (.mv (.t 6)) 10 true, xg 12 (.bin .lss (.t 11) (xi 4000)) 10 true, xo 13 (.pick (.t 10) (.t 12) (.c (.bool false)))]) (.cond 13 (.skip) (.exit 0))) (.seq (.blk 1 (.seq (xr [xv 16 0, xv 17 1, xo 18 (.build [xz, xz] [(0, 1, .t 17)]), xo 19 (.call 359 [true, false] [.t 16, .t 18]), xo 20 (.bin .neq (.t 19) (xi 0))]) (.cond 20 (.ret) (.skip)))) (xr [xv 14 6, xo 15 (.bin .add (.t 14) (xi 1)), xv 6 15])))))⟩
def m364 : MFn := ⟨36, [.cell 6 4 true], .seq (xr [xb 3 0, xo 6 (.alloc [.nil, .nil, .nil, .nil])]) (.seq (.seq (xr [xo 7 (.mv (xi 0))]) (.blk 0 (.loop (.seq (.seq (xr [xv 10 7, xv 11 2, xc2 12 147 (.t 11) (xi 4000), xo 13 (.bin .lss (.t 10) (.t 12))]) (.cond 13 (.skip) (.exit 0))) (.seq (.blk 1 (.seq (.seq (xr [xa 16 1 3, xl 17 16, xv 18 1, xo 19 (.iad 4 (.t 17) (.t 18)), xa 20 3 19, xl 21 20, xo 22 (.bin .neq (.t 21) (xi 0))]) (.cond 22 (.seq (xr [xm 23 4 3, ⟨none, .store 4 (.t 6) (.t 23), none⟩]) (.ret)) (.skip))) (.seq (xr [xm 25 4 3, xv 26 1, xo 27 (.build [xz, xz] [(0, 1, .t 26)]), xo 28 (.call 357 [true, false] [.t 25, .t 27]), xv 24 28, xo 29 (.ext (.t 24) 0), xo 30 (.ext (.t 24) 1), xo 8 (.alloc [.nil, .nil, .nil, .nil]), ⟨none, .store 4 (.t 8) (.t 29), none⟩, xv 9 30]) (.seq (.seq (xr [xv 31 9, xo 32 (.bin .neq (.t 31) (xi 0))]) (.cond 32 (.seq (xr [xm 33 4 3, ⟨none, .store 4 (.t 6) (.t 33), none⟩]) (.ret)) (.skip))) (xr [xm 34 4 8, ⟨none, .store 4 (.t 3) (.t 34), none⟩]))))) (xr [xv 14 7, xo 15 (.bin .add (.t 14) (xi 1)), xv 7 15])))))) (.seq (xr [xm 35 4 3, ⟨none, .store 4 (.t 6) (.t 35), none⟩]) (.ret)))⟩
theorem Sub.foldG (nm i f k : Nat) {off : Nat} {t : List (Nat × AV)} {h : Heap} {nx sz sz' len : Nat} {rows rows' : List (List AV)} {r : List AV} (hk : look h k = some (sz', rows')) (hlen : off + len ≤ rows'.length) (hnm : look h nm = some (sz, rows)) (hne : k ≠ nm)
  (hr : rows[i]? = some r) (hf : r[f]? = some (.ns k off len)) : Sub (.mk t h nx) (.mk t (del (put h nm (sz, rows.set i (r.set f (.sl .own sz' (partR off len rows'))))) k) nx) := by
 rintro B a w ⟨h1, h2, hb, hbt, φ, Lf, hl⟩
 let φ' : Nat → Spot := fun n => if n = k then .dead else φ n
 have hor : ∀ n, φ' n = φ n ∨ φ' n = .dead := fun n => by
  show (if n = k then Spot.dead else φ n) = φ n ∨ (if n = k then Spot.dead else φ n) = .dead
  by_cases hn : n = k
  ·rw [if_pos hn]; exact .inr rfl
  ·rw [if_neg hn]; exact .inl rfl
 have hkeep : ∀ (A : Nat → Prop) (L : List Nat), Keeps (B.env w φ) (B.env w φ') A L := fun A L => { num := rfl, fr := fun m b hb' => by cases m <;> exact hb', cells := fun b _ o => rfl, φ := fun n _ => hor n, own := fun b _ => rfl }
 have hφ : ∀ n, n ≠ k → (B.env w φ').φ n = (B.env w φ).φ n := fun n hn => if_neg hn
 have rk := hl.ok.rh.row k _ hk
 have rn := hl.ok.rh.row nm _ hnm
 obtain ⟨hi, hri⟩ := List.getElem?_eq_some_iff.1 hr
 obtain ⟨hfl, hrf⟩ := List.getElem?_eq_some_iff.1 hf
 have key : ∃ p Lr, φ nm = .at p ∧ p.sz = sz ∧ OwnBlk w p rows.length ∧ RRows (B.env w φ) w p.block p.off p.sz rows Lr ∧ Lf nm = p.block :: Lr := by
  unfold RowAt RowSp at rn
  have he : (B.env w φ).φ nm = φ nm := rfl
  rw [he] at rn
  cases hq : φ nm with
  | dead => rw [hq] at rn; exact rn.elim
  | nilp => rw [hq] at rn; simp only at rn; rw [rn.1] at hi; simp at hi
  | «at» p =>
   rw [hq] at rn
   obtain ⟨a1, a2, Lr, a3, a4⟩ := rn
   exact ⟨p, Lr, rfl, a1, a2, a3, a4⟩
 obtain ⟨p, Lr, hp, psz, pown, prow, pL⟩ := key
 obtain ⟨vs, L1, L2, L3, s1, s2, s3, s4, s5, s6, rfl⟩ := RRows_split i hi prow
 rw [hri] at s1 s4
 have hrs : r = r.take f ++ (.ns k off len :: r.drop (f + 1)) := by rw [← hrf]; simp
 rw [hrs] at s4
 obtain ⟨A1, A2, cs1, cs2, hcs, q1, q2, rfl⟩ : ∃ A1 A2 cs1 cs2, vs = cs1 ++ cs2 ∧ RVs (B.env w φ) (r.take f) cs1 A1 ∧ RVs (B.env w φ) (.ns k off len :: r.drop (f + 1)) cs2 A2 ∧ L2 = A1 ++ A2 := by
  obtain ⟨c1, c2, M1, M2, g1, g4, g2, g3⟩ := (qB1 _ _).1 s4
  exact ⟨M1, M2, c1, c2, g1, g2, g3, g4⟩
 simp only [RVs] at q2
 obtain ⟨v, vs', B1, B2, rfl, v1, v2, rfl⟩ := q2
 have hB1 : B1 = [] := by simp only [RV] at v1; exact v1.1
 subst hB1
 obtain ⟨L', o1, hsub, o3⟩ := RV_ns_own rk v1 hlen
 have hnew : RVs (B.env w φ) (r.set f (.sl .own sz' (partR off len rows'))) vs (A1 ++ (L' ++ B2)) := by
  have : r.set f (.sl .own sz' (partR off len rows')) = r.take f ++ (.sl .own sz' (partR off len rows') :: r.drop (f + 1)) := by rw [List.set_eq_take_append_cons_drop, if_pos hfl]
  rw [this, hcs]
  refine (qB1 _ _).2 ⟨_, _, _, _, rfl, rfl, q1, ?_⟩
  simp only [RVs]
  exact ⟨v, vs', L', B2, rfl, o1, v2, rfl⟩
 have hsz : (r.set f (.sl .own sz' (partR off len rows'))).length = p.sz ∧ (r.set f (.sl .own sz' (partR off len rows'))).all cellOk = true := by
  refine ⟨by rw [List.length_set]; exact s1.1, ?_⟩
  refine List.all_eq_true.2 fun x hx => ?_
  rcases List.mem_or_eq_of_mem_set hx with hx | rfl
  ·exact List.all_eq_true.1 s1.2 x hx
  ·rfl
 have hrows := RRows_join i hi hsz s2 s3 hnew s5 s6
 let Ln : List Nat := p.block :: (L1 ++ ((A1 ++ (L' ++ B2)) ++ L3))
 have hperm : Ln.Perm (Lf nm ++ L') := by
  refine List.perm_iff_count.2 fun x => ?_
  show List.count x (p.block :: (L1 ++ ((A1 ++ (L' ++ B2)) ++ L3))) = List.count x (Lf nm ++ L')
  rw [pL]
  simp only [List.nil_append, List.count_cons, List.count_append]
  omega
 have hkn : look h k ≠ none := by rw [hk]; simp
 have hnn : look h nm ≠ none := by rw [hnm]; simp
 have hmem : ∀ x, x ∈ Ln ↔ x ∈ Lf nm ∨ x ∈ L' := fun x => by rw [hperm.mem_iff, List.mem_append]
 have hnd : Ln.Nodup := by
  refine hperm.nodup_iff.2 (List.nodup_append.2 ⟨hl.ok.rh.nodup nm hnn, ?_, fun x hx y hy hxy => ?_⟩)
  ·exact o3 (hl.ok.rh.nodup k hkn)
  ·subst hxy
   exact hl.ok.rh.dis k nm hkn hnn hne x (hsub x hy) hx
 let h' : Heap := del (put h nm (sz, rows.set i (r.set f (.sl .own sz' (partR off len rows'))))) k
 have hlook : ∀ n, look h' n = if n = k then none else if n = nm then some (sz, rows.set i (r.set f (.sl .own sz' (partR off len rows')))) else look h n := fun n => by
  show look (del _ k) n = _
  rw [look_del]
  by_cases hn : n = k
  ·rw [if_pos hn, if_pos hn]
  ·rw [if_neg hn, if_neg hn, look_put]
 let Lf' : Nat → List Nat := fun n => if n = k then [] else if n = nm then Ln else Lf n
 have Lk : Lf' k = [] := if_pos rfl
 have Lnm : Lf' nm = Ln := by show (if nm = k then [] else if nm = nm then Ln else Lf nm) = Ln; rw [if_neg (Ne.symm hne), if_pos rfl]
 have Lo : ∀ n, n ≠ k → n ≠ nm → Lf' n = Lf n := fun n a b => by show (if n = k then [] else if n = nm then Ln else Lf n) = Lf n; rw [if_neg a, if_neg b]
 have lookk : look h' k = none := by rw [hlook, if_pos rfl]
 have lookn : look h' nm = some (sz, rows.set i (r.set f (.sl .own sz' (partR off len rows')))) := by rw [hlook, if_neg (Ne.symm hne), if_pos rfl]
 have looko : ∀ n, n ≠ k → n ≠ nm → look h' n = look h n := fun n a b => by rw [hlook, if_neg a, if_neg b]
 have from_ : ∀ n, look h' n ≠ none → ∀ b ∈ Lf' n, (b ∈ Lf n ∧ look h n ≠ none) ∨ (n = nm ∧ b ∈ Lf k) := by
  intro n hn b hb'
  by_cases hnk : n = k
  ·subst hnk; exact absurd lookk hn
  ·by_cases hnn' : n = nm
   ·subst hnn'
    rw [Lnm] at hb'
    rcases (hmem b).1 hb' with hx | hx
    ·exact .inl ⟨hx, hnn⟩
    ·exact .inr ⟨rfl, hsub b hx⟩
   ·rw [Lo n hnk hnn'] at hb'
    rw [looko n hnk hnn'] at hn
    exact .inl ⟨hb', hn⟩
 refine ⟨h1, h2, ?_, hbt, φ', Lf', ?_, ?_, ?_, hl.ten⟩
 ·intro n row hr'
  rw [hlook] at hr'
  split at hr'
  ·simp at hr'
  ·split at hr'
   ·rename_i _ hn
    simp only [Option.some.injEq] at hr'
    subst hr'
    obtain ⟨b1, b2⟩ := hb nm _ hnm
    obtain ⟨b3, b4⟩ := hb k _ hk
    refine ⟨by omega, bndr_iff.2 fun x hx => ?_⟩
    rcases List.mem_or_eq_of_mem_set hx with hx | rfl
    ·exact bndr_iff.1 b2 x hx
    ·refine bnds_iff.2 fun y hy => ?_
     rcases List.mem_or_eq_of_mem_set hy with hy | rfl
     ·exact bnds_iff.1 (bndr_iff.1 b2 r (getElem_mem_of hr)) y hy
     ·exact bndr_part b4
   ·exact hb n row hr'
 ·refine { size0 := hl.ok.size0, io0 := hl.ok.io0, fr := hl.ok.fr, keep0 := hl.ok.keep0, own0 := ?_, rh := { row := ?_, nodup := ?_, blk := ?_, dis := ?_, dead := ?_ } }
  ·intro n hn b hb'
   rcases from_ n hn b hb' with ⟨x1, x2⟩ | ⟨_, x1⟩
   ·exact hl.ok.own0 n x2 b x1
   ·exact hl.ok.own0 k hkn b x1
  ·intro n row hr'
   by_cases hnk : n = k
   ·subst hnk; rw [lookk] at hr'; simp at hr'
   ·by_cases hnn' : n = nm
    ·subst hnn'
     rw [lookn] at hr'
     simp only [Option.some.injEq] at hr'
     subst hr'
     rw [Lnm]
     unfold RowAt RowSp
     rw [hφ n hnk]
     have he : (B.env w φ).φ n = .at p := hp
     rw [he]
     refine ⟨psz, by rw [List.length_set]; exact pown, _, ?_, rfl⟩
     exact qB3 (A := fun _ => True) _ (hkeep _ _) (bndr_iff.2 fun x _ => bnds_iff.2 fun y _ => bnd_mono (A := (· < nx)) (fun _ _ => trivial) y (by
      obtain ⟨b1, b2⟩ := hb n _ hnm
      obtain ⟨b3, b4⟩ := hb k _ hk
      rename_i hx hy
      rcases List.mem_or_eq_of_mem_set hx with hx | rfl
      ·exact bnds_iff.1 (bndr_iff.1 b2 x hx) y hy
      ·rcases List.mem_or_eq_of_mem_set hy with hy | rfl
       ·exact bnds_iff.1 (bndr_iff.1 b2 r (getElem_mem_of hr)) y hy
       ·exact bndr_part b4)) (fun _ _ => rfl) hrows
    ·rw [looko n hnk hnn'] at hr'
     rw [Lo n hnk hnn']
     exact (hl.ok.rh.row n row hr').keep (hkeep _ _) (hφ n hnk) (hb n row hr').2
  ·intro n hn
   by_cases hnk : n = k
   ·subst hnk; exact absurd lookk hn
   ·by_cases hnn' : n = nm
    ·subst hnn'; rw [Lnm]; exact hnd
    ·rw [Lo n hnk hnn']
     rw [looko n hnk hnn'] at hn
     exact hl.ok.rh.nodup n hn
  ·intro n hn b hb'
   rcases from_ n hn b hb' with ⟨x1, x2⟩ | ⟨_, x1⟩
   ·exact hl.ok.rh.blk n x2 b x1
   ·exact hl.ok.rh.blk k hkn b x1
  ·intro n m hn hm hnm' b hb1 hb2
   have nk : n ≠ k := fun he => by subst he; exact hn lookk
   have mk : m ≠ k := fun he => by subst he; exact hm lookk
   rcases from_ n hn b hb1 with ⟨x1, x2⟩ | ⟨rfl, x1⟩ <;> rcases from_ m hm b hb2 with ⟨y1, y2⟩ | ⟨rfl, y1⟩
   ·exact hl.ok.rh.dis n m x2 y2 hnm' b x1 y1
   ·exact hl.ok.rh.dis n k x2 hkn nk b x1 y1
   ·exact hl.ok.rh.dis m k y2 hkn mk b y1 x1
   ·exact hnm' rfl
  ·intro n hn
   show (if n = k then Spot.dead else φ n) = .dead
   by_cases hnk : n = k
   ·rw [if_pos hnk]
   ·rw [if_neg hnk]
    by_cases hnn' : n = nm
    ·subst hnn'; rw [lookn] at hn; simp at hn
    ·rw [looko n hnk hnn'] at hn
     exact hl.ok.rh.dead n hn
 ·intro n
  exact RV_keep (A := (· < nx)) _ (hkeep _ _) (hbt n) (hl.tm n)
 ·intro n hn
  obtain ⟨x1, x2⟩ := hl.φ0 n hn
  refine ⟨x1, ?_⟩
  show (if n = k then Spot.dead else φ n) = B.φ0 n ∨ (if n = k then Spot.dead else φ n) = .dead
  by_cases hnk : n = k
  ·rw [if_pos hnk]; exact .inr rfl
  ·rw [if_neg hnk]; exact x2
theorem G1 (nm f k : Nat) {off : Nat} {t : List (Nat × AV)} {h : Heap} {nx sz sz' len : Nat} {rows' : List (List AV)} {r : List AV} {s' : AS} (hr : Sub (.mk t (del (put h nm (sz, [r.set f (.sl .own sz' (partR off len rows'))])) k) nx) s')
  (hk : look h k = some (sz', rows') := by rfl) (hnm : look h nm = some (sz, [r]) := by rfl) (hne : k ≠ nm := by decide)
  (hf : r[f]? = some (.ns k off len) := by rfl) (hlen : off + len ≤ rows'.length := by (simp [-List.getD_eq_getElem?_getD] <;> omega)) : Sub (.mk t h nx) s' := Sub.trans (Sub.foldG nm 0 f k (t := t) (nx := nx) hk hlen hnm hne (r := r) (by simp) hf) hr
def aloneN (steps : Int) : Nat := (min steps 4000).toNat
theorem maloneN_step {n i : Nat} (h : i < n) (m : Machine) (who : Int) (hc : (mstep m ⟨who, 0⟩).2 = 0) : maloneN (n - i) m who = maloneN (n - (i + 1)) (mstep m ⟨who, 0⟩).1 who := by
 obtain ⟨j, rfl⟩ := Nat.exists_eq_add_of_lt h
 have e1 : i + j + 1 - i = j + 1 := by omega
 have e2 : i + j + 1 - (i + 1) = j := by omega
 rw [e1, e2]
 conv => lhs; unfold maloneN
 rw [if_pos hc]
theorem maloneN_stop {n i : Nat} (h : i < n) (m : Machine) (who : Int) (hc : (mstep m ⟨who, 0⟩).2 ≠ 0) : maloneN (n - i) m who = m := by
 obtain ⟨j, rfl⟩ := Nat.exists_eq_add_of_lt h
 have e1 : i + j + 1 - i = j + 1 := by omega
 rw [e1]
 unfold maloneN
 rw [if_neg hc]
 exact mstep_no hc
set_option maxHeartbeats 4000000 in
theorem implAloneIn_ok (m : Machine) (who steps : Int) (h : machineOk m = true) : CallOk Try.prog num 346 [.ptr 0 0 0, .int .i64 who, .int .i64 steps] [(0, some (4, [machineC .own m]), some (4, [machineC .own (maloneN (aloneN steps) m who)]))] (.tup []) := by
 refine EH m346 Try.func50 ?_
 unfold m346
 simp only [go_sem, qA, qB, qC, qD, qE, qF, qG, qH]
 repeat refine K ?_
 refine qA7 (ι := Nat × Machine) (fun q => .mk [(0, .ptr 0 0 0), (1, .int .i64 who), (2, .int .i64 steps), (6, .int .i64 q.1)] [(0, 4, [machineC .own q.2])] 10) (fun q => q.1 ≤ aloneN steps ∧ machineOk q.2 = true ∧ maloneN (aloneN steps - q.1) q.2 who = maloneN (aloneN steps) m who) (fun q => aloneN steps - q.1) (0, m) ⟨by simp, h, rfl⟩ ?_ ?_
 ·refine Sub.shape [] id (by omega) ?_ ?_ ?_ ?_ <;> simp [qA3]
 ·rintro ⟨i, M⟩ ⟨hi, hM, he⟩
  simp only at hi hM he
  have hb : i ≤ 4000 := by unfold aloneN at hi; omega
  by_cases hlt : i < aloneN steps
  case neg =>
   have hfin : M = maloneN (aloneN steps) m who := by
    rw [← he]
    have : aloneN steps - i = 0 := by omega
    rw [this]
    rfl
   rw [← hfin]
   by_cases h1 : (i : Int) < steps
   ·have h2 : ¬ (i : Int) < 4000 := by unfold aloneN at hlt; omega
    simp only [go_sem, qA, qB, qC, qD, qE, qF, qG, qH, h1, h2]
    repeat refine K ?_
    rw [vc_nil]
    apply qAj (by decide)
    ·exact Sub.refl _
    ·simp [-List.drop_one, -gD, machineC] <;> (first | rfl | exact ⟨rfl, rfl⟩ | exact ⟨rfl, rfl, rfl⟩ | skip)
   ·simp only [go_sem, qA, qB, qC, qD, qE, qF, qG, qH, h1]
    repeat refine K ?_
    rw [vc_nil]
    apply qAj (by decide)
    ·exact Sub.refl _
    ·simp [-List.drop_one, -gD, machineC] <;> (first | rfl | exact ⟨rfl, rfl⟩ | exact ⟨rfl, rfl, rfl⟩ | skip)
  have h1 : (i : Int) < steps := by unfold aloneN at hlt; omega
  have h2 : (i : Int) < 4000 := by unfold aloneN at hlt; omega
  simp only [go_sem, qA, qB, qC, qD, qE, qF, qG, qH, h1, h2]
  repeat refine K ?_
  refine CA [(0, 0)] (implStep_ok M ⟨who, 0⟩ hM (by simp)) ?_
  try simp only [go_sem, qA, qB, qC, qD, qE, qF, qG, qH]
  repeat refine K ?_
  by_cases hc : (mstep M ⟨who, 0⟩).2 = 0
  ·try simp only [go_sem, qA, qB, qC, qD, qE, qF, qG, qH, hc, qA6 (i := i) (by omega)]
   repeat refine K ?_
   refine qA8 (i + 1, (mstep M ⟨who, 0⟩).1) ?_ ⟨hlt, mstep_ok _ hM, by rw [← maloneN_step hlt M who hc]; exact he⟩ (by simp only; omega)
   refine Sub.shape [] id (by omega) ?_ ?_ ?_ ?_ <;> simp [qA3]
  ·try simp only [go_sem, qA, qB, qC, qD, qE, qF, qG, qH, hc]
   repeat refine K ?_
   have hfin : maloneN (aloneN steps) m who = (mstep M ⟨who, 0⟩).1 := by
    rw [← he, maloneN_stop hlt M who hc, mstep_no hc]
   rw [hfin]
   apply qAj (by decide)
   ·exact Sub.refl _
   ·simp [-List.drop_one, -gD, machineC] <;> (first | rfl | exact ⟨rfl, rfl⟩ | exact ⟨rfl, rfl, rfl⟩ | skip)
set_option maxHeartbeats 4000000 in
theorem l15Alone_ok (m : Machine) (i : Nat) (steps : Int) (h : machineOk m = true) (hi : i < m.cores.length) : CallOk Try.prog num 364 [mchV m, .int .i64 i, .int .i64 steps] (mchF m) (.agg (machineC .own (maloneN (aloneN steps) m i))) := by
 refine EH m364 Try.func49 (hh := mchF_hb m) ?_
 unfold m364
 simp only [go_sem, qA, qB, qC, qD, qE, qF, qG, qH]
 repeat refine K ?_
 refine qA7 (ι := Nat × Machine) (fun q => .mk [(1, .int .i64 i), (2, .int .i64 steps), (3, .ptr 10 0 0), (6, .ptr 11 0 0), (7, .int .i64 q.1)] [(10, 4, [machineC .own q.2]), (11, 4, [[.nil, .nil, .nil, .nil]])] 12) (fun q => q.1 ≤ aloneN steps ∧ machineOk q.2 = true ∧ q.2.cores.length = m.cores.length ∧ maloneN (aloneN steps - q.1) q.2 i = maloneN (aloneN steps) m i) (fun q => aloneN steps - q.1) (0, m) ⟨by simp, h, rfl, rfl⟩ ?_ ?_
 ·refine G1 10 0 0 ?_
  simp only [fS, fS2, fS2, qA, qC]
  refine G1 10 1 1 ?_
  simp only [fS, fS2, fS2, qA, qC]
  refine G1 10 2 2 ?_
  simp only [fS, fS2, fS2, qA, qC]
  refine G1 10 3 3 ?_
  simp only [fS, fS2, fS2, qA, qC]
  refine Sub.shape [] id (by omega) ?_ ?_ ?_ ?_ <;> simp [qA3]
 ·rintro ⟨j, M⟩ ⟨hj, hMk, hlen, he⟩
  simp only at hj hMk hlen he
  have hb : j ≤ 4000 := by unfold aloneN at hj; omega
  have hM := (qC0 M).1 hMk
  have hil : i < M.cores.length := by omega
  have hcg := qAl .own M.cores i hil
  have hk : M.cores.getD i default = coreAt M i := rfl
  rw [hk] at hcg
  simp only [go_sem, qA, qB, qC, qD, qE, qF, qG, qH]
  repeat refine K ?_
  refine CA [] (l1Min_ok steps 4000) ?_
  try simp only [go_sem, qA, qB, qC, qD, qE, qF, qG, qH]
  repeat refine K ?_
  by_cases hlt : j < aloneN steps
  case neg =>
   have hd : decide ((j : Int) < if steps < 4000 then steps else 4000) = false := by
    unfold aloneN at hlt
    simp
    omega
   have hfin : M = maloneN (aloneN steps) m i := by
    rw [← he]
    have : aloneN steps - j = 0 := by omega
    rw [this]
    rfl
   rw [← hfin]
   try simp only [go_sem, qA, qB, qC, qD, qE, qF, qG, qH, hd]
   repeat refine K ?_
   refine ⟨_, Sub.refl _, qB5 ?_⟩; simp [-List.drop_one]
  have hd : decide ((j : Int) < if steps < 4000 then steps else 4000) = true := by
   unfold aloneN at hlt
   simp
   omega
  try simp only [go_sem, qA, qB, qC, qD, qE, qF, qG, qH, hd, hcg]
  repeat refine K ?_
  by_cases hst : (coreAt M i).st = 0
  case neg =>
   have hc : (mstep M ⟨i, 0⟩).2 ≠ 0 := by rw [qCk (late := 0) rfl rfl hil (.inl (.inl hst))]; simp
   have hfin : maloneN (aloneN steps) m i = M := by rw [← he, maloneN_stop hlt M i hc]
   rw [hfin]
   try simp only [go_sem, qA, qB, qC, qD, qE, qF, qG, qH, hst, hcg]
   repeat refine K ?_
   refine ⟨_, Sub.refl _, qB5 ?_⟩; simp [-List.drop_one]
  try simp only [go_sem, qA, qB, qC, qD, qE, qF, qG, qH, hst, hcg]
  repeat refine K ?_
  by_cases hc : (mstep M ⟨i, 0⟩).2 = 0
  ·refine CA [(0, 13), (1, 12), (2, 14), (3, 15)] (l8Step_ok M i 0 hM hil hst hc (by simp)) ?_
   try simp only [go_sem, qA, qB, qC, qD, qE, qF, qG, qH]
   repeat refine K ?_
   try simp only [go_sem, qA, qB, qC, qD, qE, qF, qG, qH, qA6 (i := j) (by omega)]
   repeat refine K ?_
   refine qA8 (j + 1, (mstep M ⟨i, 0⟩).1) ?_ ⟨hlt, mstep_ok _ hMk, by rw [(mstep_len M ⟨i, 0⟩).1]; exact hlen, by rw [← maloneN_step hlt M i hc]; exact he⟩ (by simp only; omega)
   refine Sub.trans (Sub.fold1 10 0 16 rfl (by simp [-gD] <;> omega) rfl (by decide) (by decide) rfl) ?_
   simp only [fS, fS2, qA, qC]
   refine Sub.trans (Sub.fold1 10 1 17 rfl (by simp [-gD] <;> omega) rfl (by decide) (by decide) rfl) ?_
   simp only [fS, fS2, qA, qC]
   refine Sub.trans (Sub.fold1 10 2 18 rfl (by simp [-gD] <;> omega) rfl (by decide) (by decide) rfl) ?_
   simp only [fS, fS2, qA, qC]
   refine Sub.trans (Sub.fold1 10 3 19 rfl (by simp [-gD] <;> omega) rfl (by decide) (by decide) rfl) ?_
   simp only [fS, fS2, qA, qC]
   refine Sub.shape [] id (by omega) ?_ ?_ ?_ ?_ <;> simp [qA3]
  ·have hfin : maloneN (aloneN steps) m i = M := by rw [← he, maloneN_stop hlt M i hc]
   rw [hfin]
   refine CA [(0, 13), (1, 12), (2, 14), (3, 15)] (l8StepB_ok M i 0 hM hil hst hc (by simp)) ?_
   try simp only [go_sem, qA, qB, qC, qD, qE, qF, qG, qH]
   repeat refine K ?_
   try simp only [go_sem, qA, qB, qC, qD, qE, qF, qG, qH]
   repeat refine K ?_
   refine ⟨_, Sub.refl _, qB5 ?_⟩; simp [-List.drop_one]
end Go.Sep
