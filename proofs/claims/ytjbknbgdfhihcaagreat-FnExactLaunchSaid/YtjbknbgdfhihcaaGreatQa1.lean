/- Contracts of functions. -/
import Derived.Test.YtjbknbgdfhihcaaGreatFns
import Derived.Test.YtjbknbgdfhihcaaGreatQa0
namespace Go.Sep
open Go.Proofs
set_option linter.unusedSimpArgs false
set_option linter.unusedVariables false
set_option maxRecDepth 100000
open Nat renaming reduceAdd → qA, reduceMul → qB, reduceEqDiff → qC, reduceBEq → qD
open Int renaming reduceToNat → qE, reduceEq → qF, reduceLT → qG, reduceLE → qH
open List renaming getD_eq_getElem?_getD → gD
def m44 : MFn := ⟨5, [.t 2], .seq (xr [xo 2 (.mv (.c (.bool false)))]) (.seq (xr [xv 3 0, xo 4 (.call 59 [false, false, false] [.t 3, xi 5, xi 9]), xv 2 4]) (.ret))⟩
theorem c44 : chkC Tryz.prog num Tryz.f220.ntmps m44.body ((Tryz.f220.body).getD .skip) = true := by kernel_rfl
def m96 : MFn := ⟨74, [.cell 2 5 true], .seq (xr [xo 1 (.box (.t 0)), xo 2 (.alloc [xz, xz, xz, xz, xz])]) (.seq (xr [xo 4 (.fad 0 (.t 1)), xo 5 (.load 1 false (.t 4)), xo 6 (.build [xz, xz, xz, xz, xz] [(0, 1, .t 5)]), xo 3 (.alloc [xz, xz, xz, xz, xz]), ⟨none, .store 5 (.t 3) (.t 6), none⟩]) (.seq (.seq (xr [xo 7 (.fad 0 (.t 1)), xo 8 (.load 1 false (.t 7))]) (.blk 0 (.seq (xr [xo 10 (.bin .eql (.t 8) (xi 1)), xv 9 10]) (.cond 9 (.dreg (.take 0 (xo 11 (.fad 1 (.t 1))) (.take 1 (xo 12 (.load 1 false (.t 11))) (.take 2 (xo 13 (.fad 4 (.t 1))) (.take 3 (xo 14 (.load 1 false (.t 13))) (.only 4 [0, 1] (xo 15 (.fad 1 (.t 3))) (.only 5 [0, 1] ⟨none, .store 1 (.t 15) (.t 12), none⟩ (.only 6 [0, 1, 2, 3] (xo 16 (.fad 4 (.t 3))) (.only 7 [0, 1, 2, 3] ⟨none, .store 1 (.t 16) (.t 14), none⟩ (.done)))))))))) (.seq (.seq (xr [xo 18 (.bin .eql (.t 8) (xi 2)), xv 17 18]) (.cond 17 (.skip) (.seq (xr [xo 19 (.bin .eql (.t 8) (xi 3)), xv 17 19]) (.cond 17 (.skip) (xr [xo 20 (.bin .eql (.t 8) (xi 4)), xv 17 20]))))) (.cond 17 (.dreg (.take 0 (xo 21 (.fad 1 (.t 1))) (.take 1 (xo 22 (.load 1 false (.t 21))) (.take 2 (xo 23 (.fad 2 (.t 1))) (.take 3 (xo 24 (.load 1 false (.t 23))) (.take 4 (xo 25 (.fad 3 (.t 1))) (.take 5 (xo 26 (.load 1 false (.t 25))) (.only 6 [0, 1] (xo 27 (.fad 1 (.t 3))) (.only 7 [0, 1] ⟨none, .store 1 (.t 27) (.t 22), none⟩ (.only 8 [0, 1, 2, 3] (xo 28 (.fad 2 (.t 3))) (.only 9 [0, 1, 2, 3] ⟨none, .store 1 (.t 28) (.t 24), none⟩ (.only 10 [0, 1, 2, 3, 4, 5] (xo 29 (.fad 3 (.t 3))) (.only 11 [0, 1, 2, 3, 4, 5] ⟨none, .store 1 (.t 29) (.t 26), none⟩ (.done)))))))))))))) (.seq (.seq (xr [xo 31 (.bin .eql (.t 8) (xi 5)), xv 30 31]) (.cond 30 (.skip) (xr [xo 32 (.bin .eql (.t 8) (xi 12)), xv 30 32]))) (.cond 30 (.dreg (.take 0 (xo 33 (.fad 2 (.t 1))) (.take 1 (xo 34 (.load 1 false (.t 33))) (.take 2 (xo 35 (.fad 4 (.t 1))) (.take 3 (xo 36 (.load 1 false (.t 35))) (.only 4 [0, 1] (xo 37 (.fad 2 (.t 3))) (.only 5 [0, 1] ⟨none, .store 1 (.t 37) (.t 34), none⟩ (.only 6 [0, 1, 2, 3] (xo 38 (.fad 4 (.t 3))) (.only 7 [0, 1, 2, 3] ⟨none, .store 1 (.t 38) (.t 36), none⟩ (.done)))))))))) (.seq (.seq (xr [xo 40 (.bin .eql (.t 8) (xi 6)), xv 39 40]) (.cond 39 (.skip) (xr [xo 41 (.bin .eql (.t 8) (xi 8)), xv 39 41]))) (.cond 39 (.dreg (.take 0 (xo 42 (.fad 1 (.t 1))) (.take 1 (xo 43 (.load 1 false (.t 42))) (.take 2 (xo 44 (.fad 3 (.t 1))) (.take 3 (xo 45 (.load 1 false (.t 44))) (.take 4 (xo 46 (.fad 4 (.t 1))) (.take 5 (xo 47 (.load 1 false (.t 46))) (.only 6 [0, 1] (xo 48 (.fad 1 (.t 3))) (.only 7 [0, 1] ⟨none, .store 1 (.t 48) (.t 43), none⟩ (.only 8 [0, 1, 2, 3] (xo 49 (.fad 3 (.t 3))) (.only 9 [0, 1, 2, 3] ⟨none, .store 1 (.t 49) (.t 45), none⟩ (.only 10 [0, 1, 2, 3, 4, 5] (xo 50 (.fad 4 (.t 3))) (.only 11 [0, 1, 2, 3, 4, 5] ⟨none, .store 1 (.t 50) (.t 47), none⟩ (.done)))))))))))))) (.seq (xr [xo 52 (.bin .eql (.t 8) (xi 7)), xv 51 52]) (.cond 51 (.dreg (.take 0 (xo 53 (.fad 1 (.t 1))) (.take 1 (xo 54 (.load 1 false (.t 53))) (.take 2 (xo 55 (.fad 2 (.t 1))) (.take 3 (xo 56 (.load 1 false (.t 55))) (.take 4 (xo 57 (.fad 4 (.t 1))) (.take 5 (xo 58 (.load 1 false (.t 57))) (.only 6 [0, 1] (xo 59 (.fad 1 (.t 3))) (.only 7 [0, 1] ⟨none, .store 1 (.t 59) (.t 54), none⟩ (.only 8 [0, 1, 2, 3] (xo 60 (.fad 2 (.t 3))) (.only 9 [0, 1, 2, 3] ⟨none, .store 1 (.t 60) (.t 56), none⟩ (.only 10 [0, 1, 2, 3, 4, 5] (xo 61 (.fad 4 (.t 3))) (.only 11 [0, 1, 2, 3, 4, 5] ⟨none, .store 1 (.t 61) (.t 58), none⟩ (.done)))))))))))))) (.seq (.seq (xr [xo 63 (.bin .eql (.t 8) (xi 9)), xv 62 63]) (.cond 62 (.skip) (xr [xo 64 (.bin .eql (.t 8) (xi 11)), xv 62 64]))) (.cond 62 (xr [xo 65 (.fad 4 (.t 1)), xo 66 (.load 1 false (.t 65)), xo 67 (.fad 4 (.t 3)), ⟨none, .store 1 (.t 67) (.t 66), none⟩]) (.seq (xr [xo 69 (.bin .eql (.t 8) (xi 10)), xv 68 69]) (.cond 68 (xr [xo 70 (.fad 2 (.t 1)), xo 71 (.load 1 false (.t 70)), xo 72 (.fad 2 (.t 3)), ⟨none, .store 1 (.t 72) (.t 71), none⟩]) (.skip))))))))))))))))) (.seq (xr [xo 73 (.load 5 true (.t 3)), ⟨none, .store 5 (.t 2) (.t 73), none⟩]) (.ret))))⟩
theorem c96 : chkC Tryz.prog num Tryz.f245.ntmps m96.body ((Tryz.f245.body).getD .skip) = true := by kernel_rfl
def m97 : MFn := ⟨5, [.t 2], .seq (xr [xo 2 (.mv (.c (.bool false)))]) (.seq (xr [xv 3 0, xo 4 (.call 59 [false, false, false] [.t 3, xi 0, xi 3]), xv 2 4]) (.ret))⟩
theorem c97 : chkC Tryz.prog num Tryz.f246.ntmps m97.body ((Tryz.f246.body).getD .skip) = true := by kernel_rfl
attribute [local go_sem] paramT preH e_seq e_reg e_block e_loop e_ops e_skip e_ret e_cond e_guard e_call e_ops1 plan next_ok next_some Arg.ev lookT putD putT if_false if_true app1 put del ints_length binA Option.map_some Option.bind_some look Int.toNat_natCast e_blk e_stop e_exit exitIt true_and and_true maybe_do maybe_tf maybe_ft branch_true branch_false Bool.false_eq_true bnd? cellsOf openL List.isEmpty_nil List.isEmpty_cons fresh List.map_nil List.map_cons List.cons_append List.nil_append splice List.take_zero List.drop_zero List.take_succ_cons List.getD_cons_zero List.length_cons List.length_nil List.drop_succ_cons List.drop_nil List.append_nil List.all_cons List.all_nil cellOk Bool.and_self Nat.zero_add e_dreg e_done e_take e_only1 e_onlyc e_takeg e_onlyg e_both e_tri dnext_some dnext_ok dmaybe_do rdTake pdTake addP rdOnly pdOnly isRead alive needs undep apart List.filter_nil List.filter_cons Option.isSome_some Option.isSome_none List.contains_nil List.contains_cons List.forall_mem_cons List.mem_cons List.not_mem_nil false_implies implies_true forall_const forall_eq_or_imp forall_eq or_false beq_self_eq_true Bool.or_false Bool.false_or Bool.true_or Bool.or_true Bool.not_true Bool.not_false xv xo xg xr xi xz List.set_set maybe_skip dmaybe_skip dmaybe_tf dmaybe_ft fillR fillROk fillA fillOk srcA eqC bytesOf ints_append List.replicate_zero decide_true decide_false ints_set nil_bind List.replicate_succ Int.toNat_zero Int.toNat_one eq_self Bool.and_true Bool.true_and Bool.and_false Bool.false_and List.set_cons_zero List.set_cons_succ List.getD_cons_succ rnm ixm renV renL openV openVs cond_true cond_false ints_drop ints_take drop_all
attribute [local simp] hand bwT bwC bwL ints_bw ints_take lookT Arg.ev handOk bwOk bwOks bwTs nf_sl nf_int nf_bool ints_bnd okV okL nb nbs nbr ints_nb look ints_length bnd bnds bndr renV renL ixm rnm apart needs rdOnly pdOnly fresh openV openVs resAV allP giveL giveV postH del isOwn partR ints_drop drop_all shp okB okBs ints_free
theorem inss_rep (n : Nat) (op_ : Int) (r_ : Int) (a_ : Int) (b_ : Int) (n_ : Int) : List.replicate n [.int .i64 op_, .int .i64 r_, .int .i64 a_, .int .i64 b_, .int .i64 n_] = inss (List.replicate n ⟨op_, r_, a_, b_, n_⟩) := by simp [inss, insC]
theorem inss_getD (l : List Ins) (i : Nat) (h : i < l.length) : (inss l).getD i [] = [.int .i64 (l.getD i default).op, .int .i64 (l.getD i default).r, .int .i64 (l.getD i default).a, .int .i64 (l.getD i default).b, .int .i64 (l.getD i default).n] := by simp [inss, insC, List.getD_eq_getElem?_getD, h]
theorem bodies_getD (m : Mode) (l : List (List Ins)) (i : Nat) (h : i < l.length) : (bodies m l).getD i [] = [.sl m 5 (inss (l.getD i []))] := by simp [bodies, List.getD_eq_getElem?_getD, h]
theorem nilRs_refl : ∀ (l : List (List AV)), nilRs l l
  | [] => by simp [nilRs]
  | r :: l => (nilRs_cons r r l l).2 ⟨nilL_refl r, nilRs_refl l⟩
theorem nilRs_app : ∀ {a a' b b' : List (List AV)}, nilRs a a' → nilRs b b' → nilRs (a ++ b) (a' ++ b')
  | [], a', b, b', h1, h2 => by
    simp only [nilRs] at h1
    subst h1
    exact h2
  | r :: a, a', b, b', h1, h2 => by
    simp only [nilRs] at h1
    obtain ⟨d, ds, rfl, h3, h4⟩ := h1
    exact (nilRs_cons r d _ _).2 ⟨h3, nilRs_app h4 h2⟩
theorem Sub.nilRow (nm : Nat) {t : List (Nat × AV)} {h : Heap} {nx sz : Nat} {rows rows' : List (List AV)} (hl : look h nm = some (sz, rows)) (hn : nilRs rows rows') (hbn : bndr (· < nx) rows') : Sub (.mk t h nx) (.mk t (put h nm (sz, rows')) nx) := by
  rintro B a w ⟨h1, h2, hb, hbt, φ, Lf, hl'⟩
  have hlk : ∀ n, look (put h nm (sz, rows')) n = if n = nm then some (sz, rows') else look h n := fun n => look_put n
  have hne : ∀ n, look (put h nm (sz, rows')) n ≠ none → look h n ≠ none := fun n hn' => by
    rw [hlk] at hn'
    split at hn'
    · rename_i he; rw [he, hl]; simp
    · exact hn'
  refine ⟨h1, h2, ?_, hbt, φ, Lf, ⟨hl'.ok.size0, hl'.ok.io0, hl'.ok.fr, hl'.ok.keep0, fun n hn' => hl'.ok.own0 n (hne n hn'), ?_, fun n hn' => hl'.ok.rh.nodup n (hne n hn'), fun n hn' => hl'.ok.rh.blk n (hne n hn'), fun n m hn' hm => hl'.ok.rh.dis n m (hne n hn') (hne m hm), ?_⟩, hl'.tm, hl'.φ0, hl'.ten⟩
  · intro n row hr
    rw [hlk] at hr
    split at hr
    · rename_i he
      simp only [Option.some.injEq] at hr
      subst hr he
      exact ⟨(hb n _ hl).1, hbn⟩
    · exact hb n row hr
  · intro n row hr
    rw [hlk] at hr
    split at hr
    · rename_i he
      simp only [Option.some.injEq] at hr
      subst hr he
      have := hl'.ok.rh.row n _ hl
      unfold RowAt RowSp at this ⊢
      cases hq : (B.env w φ).φ n with
      | dead => rw [hq] at this; exact this.elim
      | nilp =>
        rw [hq] at this
        simp only at this
        obtain ⟨h3, h4⟩ := this
        rw [h3] at hn
        simp only [nilRs] at hn
        exact ⟨hn, h4⟩
      | «at» p =>
        rw [hq] at this
        obtain ⟨h3, h4, Lr, h5, h6⟩ := this
        exact ⟨h3, by rw [nilRs_length hn]; exact h4, Lr, nilRs_ok hn h5, h6⟩
    · exact hl'.ok.rh.row n row hr
  · intro n hn'
    rw [hlk] at hn'
    split at hn'
    · simp at hn'
    · exact hl'.ok.rh.dead n hn'
theorem Sub.nilLast (nm : Nat) {t : List (Nat × AV)} {h : Heap} {nx sz : Nat} {front : List (List AV)} {r r' : List AV} (hl : look h nm = some (sz, front ++ [r])) (hn : nilL r r') (hbn : bndr (· < nx) (front ++ [r'])) : Sub (.mk t h nx) (.mk t (put h nm (sz, front ++ [r'])) nx) :=
  Sub.nilRow nm hl (nilRs_app (nilRs_refl front) ((nilRs_cons r r' [] []).2 ⟨hn, (nilRs_nil).2 trivial⟩)) hbn
theorem isReg_ok (n : Int) : CallOk Tryz.prog num 97 [.int .i64 n] [] (.bool (within n 0 3)) := by
  refine enter (m := m97) (f := 97) (fn := Tryz.f246) Tryz.func246 (by kernel_rfl) rfl c97 rfl (by simp [Tryz.f246]) (by simp [bnds, bnd, nf_sl, nf_int, nf_bool, nf_str, ints_bnd]) (fun _ _ h => by simp [preH, look] at h) ?_
  unfold m97
  simp only [go_sem, qA, qB, qC, qD, qE, qF, qG, qH]
  refine CA [] (within_ok n 0 3) ?_
  try simp only [go_sem, qA, qB, qC, qD, qE, qF, qG, qH]
  repeat refine K ?_
  refine ⟨_, Sub.refl _, ?_⟩; simp [FinS, nilL, nilV, oneOr, -List.drop_one]
theorem ofChan_ok (n : Int) : CallOk Tryz.prog num 44 [.int .i64 n] [] (.bool (within n 5 9)) := by
  refine enter (m := m44) (f := 44) (fn := Tryz.f220) Tryz.func220 (by kernel_rfl) rfl c44 rfl (by simp [Tryz.f220]) (by simp [bnds, bnd, nf_sl, nf_int, nf_bool, nf_str, ints_bnd]) (fun _ _ h => by simp [preH, look] at h) ?_
  unfold m44
  simp only [go_sem, qA, qB, qC, qD, qE, qF, qG, qH]
  refine CA [] (within_ok n 5 9) ?_
  try simp only [go_sem, qA, qB, qC, qD, qE, qF, qG, qH]
  repeat refine K ?_
  refine ⟨_, Sub.refl _, ?_⟩; simp [FinS, nilL, nilV, oneOr, -List.drop_one]
def insOk (x : Ins) (pl ch : Int) : Bool :=
  within x.r 0 3 && within x.a 0 3 && within x.b 0 3 && within ch 0 3 &&
  (if x.op = 1 then within x.n (-1000000000) 1000000000 && decide (x.a = 0) && decide (x.b = 0)
   else if x.op = 2 ∨ x.op = 3 ∨ x.op = 4 then decide (x.n = 0)
   else if x.op = 5 then within x.n 0 (ch - 1) && decide (x.r = 0) && decide (x.b = 0)
   else if x.op = 6 ∨ x.op = 8 then within x.n 0 (ch - 1) && decide (x.a = 0) && !decide (x.r = x.b)
   else if x.op = 7 then within x.n 0 (ch - 1) && decide (x.b = 0)
   else if x.op = 9 then within x.n 0 (ch - 1) && decide (x.r = 0) && decide (x.a = 0) && decide (x.b = 0)
   else if x.op = 10 then decide (x.r = 0) && decide (x.b = 0) && decide (x.n = 0)
   else if x.op = 11 then decide (0 ≤ x.n) && decide (x.n < pl) && decide (x.r = 0) && decide (x.a = 0) && decide (x.b = 0)
   else if x.op = 12 then decide (0 ≤ x.n) && decide (x.n < pl) && decide (x.r = 0) && decide (x.b = 0)
   else if x.op = 13 then decide (x.op = 13) && (decide (x.r = 0) && (decide (x.a = 0) && (decide (x.b = 0) && decide (x.n = 0))))
   else false)
def insOkF (x : Ins) (pl ch : Int) : Bool :=
  within ch 0 3 && within x.op 1 13 && (decide (x.op = (named x).op) && (decide (x.r = (named x).r) && (decide (x.a = (named x).a) && (decide (x.b = (named x).b) && decide (x.n = (named x).n))))) &&
  within x.r 0 3 && within x.a 0 3 && within x.b 0 3 &&
  (if x.op = 1 then within x.n (-1000000000) 1000000000
   else if x.op = 11 ∨ x.op = 12 then within x.n 0 (pl - 1)
   else if (x.op = 6 ∨ x.op = 8) ∧ x.r = x.b then false
   else !within x.op 5 9 || within x.n 0 (ch - 1))
set_option maxHeartbeats 4000000 in
theorem named_ok (x : Ins) : CallOk Tryz.prog num 96 [.agg (insC x)] [] (.agg (insC (named x))) := by
  refine enter (m := m96) (f := 96) (fn := Tryz.f245) Tryz.func245 (by kernel_rfl) rfl c96 rfl (by simp [Tryz.f245]) (by simp [bnds, bnd, nf_sl, nf_int, nf_bool, nf_str, ints_bnd]) (fun _ _ h => by simp [preH, look] at h) ?_
  unfold m96
  repeat' (first
    | (simp only [go_sem, qA, qB, qC, qD, qE, qF, qG, qH])
    | (refine branch_intro (fun hc => ?_) (fun hc => ?_) <;> ((try simp only [Bool.not_eq_true', Bool.not_eq_false', ne_eq, Bool.not_eq_true, Bool.not_eq_false] at hc) <;> (try simp only [hc])))
    | (refine maybe_intro (fun hc => ?_) (fun hc => ?_) <;> ((try simp only [Bool.not_eq_true', Bool.not_eq_false', ne_eq, Bool.not_eq_true, Bool.not_eq_false] at hc) <;> (try simp only [hc])))
    | (refine dmaybe_intro (fun hc => ?_) (fun hc => ?_) <;> ((try simp only [Bool.not_eq_true', Bool.not_eq_false', ne_eq, Bool.not_eq_true, Bool.not_eq_false] at hc) <;> (try simp only [hc])))
    | (refine ⟨by first | omega | (simp; done), ?_⟩)
    | fail)
  all_goals (refine ⟨_, Sub.refl _, ?_⟩; simp [FinS, nilL, nilV, oneOr, -List.drop_one])
  all_goals (try (simp_all [named]; done))
theorem insOkF_eq (x : Ins) (pl ch : Int) : insOkF x pl ch = insOk x pl ch := by
  obtain ⟨op, r, a, b, n⟩ := x
  by_cases h : 1 ≤ op ∧ op ≤ 13
  · obtain rfl | rfl | rfl | rfl | rfl | rfl | rfl | rfl | rfl | rfl | rfl | rfl | rfl : op = 1 ∨ op = 2 ∨ op = 3 ∨ op = 4 ∨ op = 5 ∨ op = 6 ∨ op = 7 ∨ op = 8 ∨ op = 9 ∨ op = 10 ∨ op = 11 ∨ op = 12 ∨ op = 13 := by omega
    all_goals (rw [Bool.eq_iff_iff]; simp [insOkF, insOk, named, within_eq]; try omega)
  · have h1 : ¬ op = 1 := by omega
    have h2 : ¬ op = 2 := by omega
    have h3 : ¬ op = 3 := by omega
    have h4 : ¬ op = 4 := by omega
    have h5 : ¬ op = 5 := by omega
    have h6 : ¬ op = 6 := by omega
    have h7 : ¬ op = 7 := by omega
    have h8 : ¬ op = 8 := by omega
    have h9 : ¬ op = 9 := by omega
    have h10 : ¬ op = 10 := by omega
    have h11 : ¬ op = 11 := by omega
    have h12 : ¬ op = 12 := by omega
    have h13 : ¬ op = 13 := by omega
    have hw : within op 1 13 = false := by rw [within_eq]; simp; omega
    simp [insOkF, insOk, hw, h1, h2, h3, h4, h5, h6, h7, h8, h9, h10, h11, h12, h13]

end Go.Sep
