/- Contracts of functions. -/
import Derived.Test.YtjbknbgdfhihcaaVzFns
namespace Go.Sep
open Go.Proofs
set_option linter.unusedSimpArgs false
set_option linter.unusedVariables false
set_option maxRecDepth 100000
open Nat renaming reduceAdd → qA, reduceMul → qB, reduceEqDiff → qC, reduceBEq → qD
open Int renaming reduceToNat → qE, reduceEq → qF, reduceLT → qG, reduceLE → qH
def m5 : MFn := ⟨22, [.t 2], .seq (xr [xo 2 (.mv (.c (.nil)))]) (.seq (xr [xv 5 0, xe 6 5, xo 7 (.mkS [xz] 8 (.t 6) (.t 6)), xv 3 7]) (.seq (.seq (xr [xo 4 (.mv (xi 0))]) (.blk 0 (.loop (.seq (.seq (xr [xv 8 4, xv 9 0, xe 10 9, xo 11 (.bin .lss (.t 8) (.t 10))]) (.cond 11 (.skip) (.exit 0))) (.seq (.blk 1 (xr [xv 14 3, xv 15 4, xv 16 0, xv 17 4, xo 18 (.iad 1 (.t 16) (.t 17)), xl 19 18, xo 20 (.iad 1 (.t 14) (.t 15)), ⟨none, .store 1 (.t 20) (.t 19), none⟩])) (xr [xv 12 4, xo 13 (.bin .add (.t 12) (xi 1)), xv 4 13])))))) (.seq (xr [xv 21 3, xv 2 21]) (.ret))))⟩
def m8 : MFn := ⟨26, [.t 4], .seq (xr [xF 4]) (.seq (.seq (xr [xv 6 0, xe 7 6, xv 8 1, xe 9 8, xo 10 (.bin .neq (.t 7) (.t 9))]) (.cond 10 (.seq (xr [xF 4]) (.ret)) (.skip))) (.seq (.seq (xr [xo 5 (.mv (xi 0))]) (.blk 0 (.loop (.seq (.seq (xr [xv 11 5, xv 12 0, xe 13 12, xo 14 (.bin .lss (.t 11) (.t 13))]) (.cond 14 (.skip) (.exit 0))) (.seq (.blk 1 (.seq (.dreg (.take 0 (xv 17 0) (.take 1 (xv 18 5) (.take 2 (xo 19 (.iad 1 (.t 17) (.t 18))) (.take 3 (xl 20 19) (.take 4 (xv 21 1) (.only 5 [] (xv 22 5) (.only 6 [4] (xo 23 (.iad 1 (.t 21) (.t 22))) (.only 7 [6, 4] (xl 24 23) (.only 8 [3, 7, 2, 6, 0, 1, 4] (xo 25 (.bin .neq (.t 20) (.t 24))) (.done))))))))))) (.cond 25 (.seq (xr [xF 4]) (.ret)) (.skip)))) (xr [xv 15 5, xo 16 (.bin .add (.t 15) (xi 1)), xv 5 16])))))) (.seq (xr [xT 4]) (.ret))))⟩
def m16 : MFn := ⟨19, [.t 4], .seq (xr [xo 4 (.mv (xi 0))]) (.seq (.seq (xr [xo 5 (.mv (xi 0))]) (.blk 0 (.loop (.seq (.seq (xr [xv 6 5, xv 7 0, xe 8 7, xo 9 (.bin .lss (.t 6) (.t 8))]) (.cond 9 (.skip) (.exit 0))) (.seq (.blk 1 (.seq (xr [xv 12 0, xv 13 5, xv 14 1, xo 15 (.iad 1 (.t 12) (.t 13)), ⟨none, .store 1 (.t 15) (.t 14), none⟩]) (xr [xv 16 1, xo 17 (.bin .add (.t 16) (xi 1)), xv 1 17]))) (xr [xv 10 5, xo 11 (.bin .add (.t 10) (xi 1)), xv 5 11])))))) (.seq (xr [xv 18 1, xv 4 18]) (.ret)))⟩
def m17 : MFn := ⟨21, [.t 4], .seq (xr [xo 4 (.mv (xi 0))]) (.seq (.seq (xr [xo 5 (.mv (xi 0))]) (.blk 0 (.loop (.seq (.seq (xr [xv 6 5, xv 7 0, xe 8 7, xo 9 (.bin .lss (.t 6) (.t 8))]) (.cond 9 (.skip) (.exit 0))) (.seq (.blk 1 (.seq (.seq (xr [xv 12 0, xv 13 5, xo 14 (.iad 1 (.t 12) (.t 13)), xl 15 14, xv 16 1, xo 17 (.bin .neq (.t 15) (.t 16))]) (.cond 17 (.seq (xr [xo 4 (.mv (.c (.int .i64 (-1))))]) (.ret)) (.skip))) (xr [xv 18 1, xo 19 (.bin .add (.t 18) (xi 1)), xv 1 19]))) (xr [xv 10 5, xo 11 (.bin .add (.t 10) (xi 1)), xv 5 11])))))) (.seq (xr [xv 20 1, xv 4 20]) (.ret)))⟩
def m35 : MFn := ⟨12, [.t 4], .seq (xr [xo 4 (.mv (xi 0))]) (.seq (xr [xv 5 1, xv 6 0, xe 7 6, xo 8 (.bin .sub (.t 5) (.t 7)), xv 1 8]) (.seq (.seq (xr [xv 9 1, xo 10 (.bin .lss (.t 9) (xi 0))]) (.cond 10 (.seq (xr [xo 4 (.mv (.c (.int .i64 (-1))))]) (.ret)) (.skip))) (.seq (xr [xv 11 1, xv 4 11]) (.ret))))⟩
def m36 : MFn := ⟨6, [.t 2], .seq (xr [xo 2 (.mv (.c (.nil)))]) (.seq (xr [xo 3 (.mkSl [xz] 0 []), xv 4 0, xo 5 (.app 1 8 (.t 3) (.t 4)), xv 2 5]) (.ret))⟩
def m59 : MFn := ⟨15, [.t 6], .seq (xr [xF 6]) (.seq (xr [xv 7 0, xv 8 1, xo 9 (.bin .geq (.t 7) (.t 8)), xv 10 9, xg 11 (.mv (.t 0)) 10 true, xg 12 (.mv (.t 2)) 10 true, xg 13 (.bin .leq (.t 11) (.t 12)) 10 true, xo 14 (.pick (.t 10) (.t 13) (.c (.bool false))), xv 6 14]) (.ret))⟩
def m64 : MFn := ⟨15, [.t 6], .seq (xr [xF 6]) (.seq (xr [xv 7 0, xv 8 1, xo 9 (.bin .geq (.t 7) (.t 8)), xv 10 9, xg 11 (.mv (.t 0)) 10 true, xg 12 (.mv (.t 2)) 10 true, xg 13 (.bin .leq (.t 11) (.t 12)) 10 true, xo 14 (.pick (.t 10) (.t 13) (.c (.bool false))), xv 6 14]) (.ret))⟩
def m69 : MFn := ⟨6, [.t 2], .seq (xr [xo 2 (.mv (.c (.nil)))]) (.seq (xr [xo 3 (.mkSl [xz, xz] 0 []), xv 4 0, xo 5 (.app 2 16 (.t 3) (.t 4)), xv 2 5]) (.ret))⟩
def m78 : MFn := ⟨4, [.t 2], .seq (xr [xo 2 (.mv (xi 0))]) (.seq (.seq (xr [xv 3 0]) (.cond 3 (.seq (xr [xo 2 (.mv (xi 1))]) (.ret)) (.skip))) (.seq (xr [xo 2 (.mv (xi 0))]) (.ret)))⟩
def m85 : MFn := ⟨4, [.t 2], .seq (xr [xo 2 (.mv (xi 0))]) (.seq (.seq (xr [xv 3 0]) (.cond 3 (.seq (xr [xo 2 (.mv (xi 1))]) (.ret)) (.skip))) (.seq (xr [xo 2 (.mv (xi 0))]) (.ret)))⟩
attribute [local go_sem] paramT preH e_seq e_reg e_block e_loop e_ops e_skip e_ret e_cond e_guard e_call e_ops1 plan next_ok next_some Arg.ev lookT putD putT if_false if_true app1 put del qCu binA Option.map_some Option.bind_some look Int.toNat_natCast e_blk e_stop e_exit exitIt true_and and_true maybe_do maybe_tf maybe_ft branch_true branch_false Bool.false_eq_true bnd? cellsOf openL List.isEmpty_nil List.isEmpty_cons fresh List.map_nil List.map_cons List.cons_append List.nil_append splice List.take_zero List.drop_zero List.take_succ_cons List.getD_cons_zero List.length_cons List.length_nil List.drop_succ_cons List.drop_nil List.append_nil List.all_cons List.all_nil cellOk Bool.and_self Nat.zero_add e_dreg e_done e_take e_only1 e_onlyc e_takeg e_onlyg e_both e_tri dnext_some dnext_ok dmaybe_do rdTake pdTake addP rdOnly pdOnly isRead alive needs undep apart List.filter_nil List.filter_cons Option.isSome_some Option.isSome_none List.contains_nil List.contains_cons List.forall_mem_cons List.mem_cons List.not_mem_nil false_implies implies_true forall_const forall_eq_or_imp forall_eq or_false beq_self_eq_true Bool.or_false Bool.false_or Bool.true_or Bool.or_true Bool.not_true Bool.not_false xv xo xg xr xi xz List.set_set maybe_skip dmaybe_skip dmaybe_tf dmaybe_ft fillR fillROk fillA fillOk srcA eqC bytesOf ints_append List.replicate_zero decide_true decide_false ints_set nil_bind List.replicate_succ Int.toNat_zero Int.toNat_one eq_self Bool.and_true Bool.true_and Bool.and_false Bool.false_and List.set_cons_zero List.set_cons_succ List.getD_cons_succ rnm ixm renV renL openV openVs cond_true cond_false ints_drop ints_take drop_all
attribute [local simp] hand bwT bwC bwL qBv ints_take lookT Arg.ev handOk bwOk bwOks bwTs nf_sl nf_int nf_bool qAh okV okL nb nbs nbr qBr look qCu bnd bnds bndr renV renL ixm rnm apart needs rdOnly pdOnly fresh openV openVs resAV allP giveL giveV postH del isOwn partR ints_drop drop_all shp okB okBs ints_free
theorem qBq {rs : List MRes} {fp : FP} {vs : List AV} {t : List (Nat × AV)} {h : Heap} {nx : Nat} (h0 : vs.length ≠ 1) (h1 : allP (rs.map fun r => (resAV t h r).2) ∧ (giveL h (rs.map fun r => (resAV t h r).1)).2.2 ∧ nilL (giveL h (rs.map fun r => (resAV t h r).1)).1 vs ∧ ∀ x ∈ fp, look (giveL h (rs.map fun r => (resAV t h r).1)).2.1 x.1 = look (postH fp) x.1) : FinS rs fp (.tup vs) (.mk t h nx) := by
 refine ⟨h1.1, h1.2.1, ⟨vs, h1.2.2.1, ?_⟩, h1.2.2.2⟩
 match vs, h0 with
 | [], _ => rfl
 | [_], h0 => exact absurd rfl h0
 | _ :: _ :: _, _ => rfl
theorem qB5 {rs : List MRes} {fp : FP} {v : AV} {t : List (Nat × AV)} {h : Heap} {nx : Nat} (h1 : allP (rs.map fun r => (resAV t h r).2) ∧ (giveL h (rs.map fun r => (resAV t h r).1)).2.2 ∧ nilL (giveL h (rs.map fun r => (resAV t h r).1)).1 [v] ∧ ∀ x ∈ fp, look (giveL h (rs.map fun r => (resAV t h r).1)).2.1 x.1 = look (postH fp) x.1) : FinS rs fp v (.mk t h nx) :=
 ⟨h1.1, h1.2.1, ⟨[v], h1.2.2.1, rfl⟩, h1.2.2.2⟩
theorem nilL_cons (c d : AV) (cs ds : List AV) : nilL (c :: cs) (d :: ds) ↔ nilV c d ∧ nilL cs ds := by
 simp only [nilL, List.cons.injEq]
 exact ⟨fun ⟨_, _, ⟨h1, h2⟩, h3, h4⟩ => by subst h1 h2; exact ⟨h3, h4⟩, fun ⟨h3, h4⟩ => ⟨_, _, ⟨rfl, rfl⟩, h3, h4⟩⟩
theorem nilL_nil : nilL [] [] ↔ True := by simp [nilL]
theorem nilV_agg (cs ds : List AV) : nilV (.agg cs) (.agg ds) ↔ nilL cs ds := by simp [nilV]
theorem nilV_tup (cs ds : List AV) : nilV (.tup cs) (.tup ds) ↔ nilL cs ds := by simp [nilV]
theorem nilV_nilsl (m : Mode) (sz : Nat) : nilV .nil (.sl m sz []) ↔ True := by simp [nilV]
theorem nilV_nil : nilV .nil .nil ↔ True := by simp [nilV]
theorem nilV_sl (m : Mode) (sz : Nat) (rows : List (List AV)) (d : AV) : nilV (.sl m sz rows) d ↔ .sl m sz rows = d := by simp [nilV]
theorem nilV_int (k : IntKind) (n : Int) (d : AV) : nilV (.int k n) d ↔ .int k n = d := by simp [nilV]
theorem nilV_bool (b : Bool) (d : AV) : nilV (.bool b) d ↔ .bool b = d := by simp [nilV]
theorem nilV_str (s : ByteArray) (d : AV) : nilV (.str s) d ↔ .str s = d := by simp [nilV]
theorem nilV_ns (k o l : Nat) (d : AV) : nilV (.ns k o l) d ↔ .ns k o l = d := by simp [nilV]
theorem nilV_ptr (k o l : Nat) (d : AV) : nilV (.ptr k o l) d ↔ .ptr k o l = d := by simp [nilV]
theorem nilRs_cons (r d : List AV) (rs ds : List (List AV)) : nilRs (r :: rs) (d :: ds) ↔ nilL r d ∧ nilRs rs ds := by
 simp only [nilRs, List.cons.injEq]
 exact ⟨fun ⟨_, _, ⟨h1, h2⟩, h3, h4⟩ => by subst h1 h2; exact ⟨h3, h4⟩, fun ⟨h3, h4⟩ => ⟨_, _, ⟨rfl, rfl⟩, h3, h4⟩⟩
theorem nilRs_nil : nilRs [] [] ↔ True := by simp [nilRs]
theorem free_nil : free [] ↔ True := by simp [free]
theorem free_cons (r : List AV) (rs : List (List AV)) : free (r :: rs) ↔ (∀ c ∈ r, isOwn c = false) ∧ free rs := by simp [free]
structure Ins where
 op : Int
 r : Int
 a : Int
 b : Int
 n : Int
 deriving DecidableEq, Inhabited
def insC (x : Ins) : List AV := [.int .i64 x.op, .int .i64 x.r, .int .i64 x.a, .int .i64 x.b, .int .i64 x.n]
def inss (l : List Ins) : List (List AV) := l.map insC
theorem inss_nil : inss [] = [] := rfl
theorem inss_length (l : List Ins) : (inss l).length = l.length := by simp [inss]
theorem inss_append (l k : List Ins) : inss l ++ inss k = inss (l ++ k) := by simp [inss]
theorem inss_drop (l : List Ins) (n : Nat) : (inss l).drop n = inss (l.drop n) := by simp [inss]
theorem inss_take (l : List Ins) (n : Nat) : (inss l).take n = inss (l.take n) := by simp [inss]
theorem inss_set (l : List Ins) (i : Nat) (op_ : Int) (r_ : Int) (a_ : Int) (b_ : Int) (n_ : Int) : (inss l).set i [.int .i64 op_, .int .i64 r_, .int .i64 a_, .int .i64 b_, .int .i64 n_] = inss (l.set i ⟨op_, r_, a_, b_, n_⟩) := by simp [inss, insC]
theorem qBn (A : Nat → Prop) (l : List Ins) : bndr A (inss l) ↔ True := by
 simp only [iff_true]
 induction l with
 | nil => trivial
 | cons x l ih => exact ⟨by simp [insC,  bnds, bnd, nf_sl, qAh], ih⟩
theorem qCd (l : List Ins) : nbr (inss l) ↔ True := by
 simp only [iff_true]
 induction l with
 | nil => trivial
 | cons x l ih => exact ⟨by simp [insC,  nbs, nb, qBr], ih⟩
theorem qC7 : ∀ (l : List Ins), bwR (inss l) = inss l
 | [] => rfl
 | x :: l => by
  have := qC7 l
  simp only [inss, List.map_cons, bwR] at this ⊢
  rw [this]
  simp [insC,  bwL, bwC, qBv]
theorem inss_free (l : List Ins) : free (inss l) ↔ True := by
 simp only [iff_true]
 intro r hr c hc
 simp only [inss, List.mem_map] at hr
 obtain ⟨x, _, rfl⟩ := hr
 simp [insC] at hc
 rcases hc with rfl | rfl | rfl | rfl | rfl <;> rfl
def bodies (m : Mode) (l : List (List Ins)) : List (List AV) := l.map fun b => [.sl m 5 (inss b)]
theorem bodies_nil (m : Mode) : bodies m [] = [] := rfl
theorem bodies_length (m : Mode) (l : List (List Ins)) : (bodies m l).length = l.length := by simp [bodies]
theorem bodies_append (m : Mode) (l k : List (List Ins)) : bodies m l ++ bodies m k = bodies m (l ++ k) := by simp [bodies]
theorem bodies_drop (m : Mode) (l : List (List Ins)) (n : Nat) : (bodies m l).drop n = bodies m (l.drop n) := by simp [bodies]
theorem bodies_take (m : Mode) (l : List (List Ins)) (n : Nat) : (bodies m l).take n = bodies m (l.take n) := by simp [bodies]
theorem bodies_set (m : Mode) (l : List (List Ins)) (i : Nat) (b_ : List Ins) : (bodies m l).set i [.sl m 5 (inss b_)] = bodies m (l.set i b_) := by simp [bodies]
theorem qB0 (A : Nat → Prop) (m : Mode) (l : List (List Ins)) : bndr A (bodies m l) ↔ True := by
 simp only [iff_true]
 induction l with
 | nil => trivial
 | cons x l ih => exact ⟨by simp [ bnds, bnd, nf_sl, qAh, qBn], ih⟩
theorem qBc (l : List (List Ins)) : nbr (bodies .own l) ↔ True := by
 simp only [iff_true]
 induction l with
 | nil => trivial
 | cons x l ih => exact ⟨by simp [ nbs, nb, qBr, qCd], ih⟩
theorem qB6 (m : Mode) : ∀ (l : List (List Ins)), bwR (bodies m l) = bodies .bw l
 | [] => rfl
 | x :: l => by
  have := qB6 m l
  simp only [bodies, List.map_cons, bwR] at this ⊢
  rw [this]
  simp [ bwL, bwC, qBv, qC7]
theorem bodies_free (l : List (List Ins)) : free (bodies .bw l) ↔ True := by
 simp only [iff_true]
 intro r hr c hc
 simp only [bodies, List.mem_map] at hr
 obtain ⟨x, _, rfl⟩ := hr
 simp [] at hc
 rcases hc with rfl <;> rfl
def intss (m : Mode) (l : List (List Int)) : List (List AV) := l.map fun b => [.sl m 1 (ints b)]
theorem intss_nil (m : Mode) : intss m [] = [] := rfl
theorem intss_length (m : Mode) (l : List (List Int)) : (intss m l).length = l.length := by simp [intss]
theorem intss_append (m : Mode) (l k : List (List Int)) : intss m l ++ intss m k = intss m (l ++ k) := by simp [intss]
theorem intss_drop (m : Mode) (l : List (List Int)) (n : Nat) : (intss m l).drop n = intss m (l.drop n) := by simp [intss]
theorem intss_take (m : Mode) (l : List (List Int)) (n : Nat) : (intss m l).take n = intss m (l.take n) := by simp [intss]
theorem intss_set (m : Mode) (l : List (List Int)) (i : Nat) (b_ : List Int) : (intss m l).set i [.sl m 1 (ints b_)] = intss m (l.set i b_) := by simp [intss]
theorem qBh (A : Nat → Prop) (m : Mode) (l : List (List Int)) : bndr A (intss m l) ↔ True := by
 simp only [iff_true]
 induction l with
 | nil => trivial
 | cons x l ih => exact ⟨by simp [ bnds, bnd, nf_sl, qAh, qBn, qB0], ih⟩
theorem qC1 (l : List (List Int)) : nbr (intss .own l) ↔ True := by
 simp only [iff_true]
 induction l with
 | nil => trivial
 | cons x l ih => exact ⟨by simp [ nbs, nb, qBr, qCd, qBc], ih⟩
theorem qBt (m : Mode) : ∀ (l : List (List Int)), bwR (intss m l) = intss .bw l
 | [] => rfl
 | x :: l => by
  have := qBt m l
  simp only [intss, List.map_cons, bwR] at this ⊢
  rw [this]
  simp [ bwL, bwC, qBv, qC7, qB6]
theorem intss_free (l : List (List Int)) : free (intss .bw l) ↔ True := by
 simp only [iff_true]
 intro r hr c hc
 simp only [intss, List.mem_map] at hr
 obtain ⟨x, _, rfl⟩ := hr
 simp [] at hc
 rcases hc with rfl <;> rfl
structure Chan where
 cap : Int
 list : List Int
 closed : Bool
 deriving DecidableEq, Inhabited
def chanC (m : Mode) (x : Chan) : List AV := [.int .i64 x.cap, .sl m 1 (ints x.list), .bool x.closed]
def chans (m : Mode) (l : List Chan) : List (List AV) := l.map (chanC m)
theorem chans_nil (m : Mode) : chans m [] = [] := rfl
theorem chans_length (m : Mode) (l : List Chan) : (chans m l).length = l.length := by simp [chans]
theorem chans_append (m : Mode) (l k : List Chan) : chans m l ++ chans m k = chans m (l ++ k) := by simp [chans]
theorem chans_drop (m : Mode) (l : List Chan) (n : Nat) : (chans m l).drop n = chans m (l.drop n) := by simp [chans]
theorem chans_take (m : Mode) (l : List Chan) (n : Nat) : (chans m l).take n = chans m (l.take n) := by simp [chans]
theorem chans_set (m : Mode) (l : List Chan) (i : Nat) (cap_ : Int) (list_ : List Int) (closed_ : Bool) : (chans m l).set i [.int .i64 cap_, .sl m 1 (ints list_), .bool closed_] = chans m (l.set i ⟨cap_, list_, closed_⟩) := by simp [chans, chanC]
theorem qBp (A : Nat → Prop) (m : Mode) (l : List Chan) : bndr A (chans m l) ↔ True := by
 simp only [iff_true]
 induction l with
 | nil => trivial
 | cons x l ih => exact ⟨by simp [chanC,  bnds, bnd, nf_sl, qAh, qBn, qB0, qBh], ih⟩
theorem qC9 (l : List Chan) : nbr (chans .own l) ↔ True := by
 simp only [iff_true]
 induction l with
 | nil => trivial
 | cons x l ih => exact ⟨by simp [chanC,  nbs, nb, qBr, qCd, qBc, qC1], ih⟩
theorem qC3 (m : Mode) : ∀ (l : List Chan), bwR (chans m l) = chans .bw l
 | [] => rfl
 | x :: l => by
  have := qC3 m l
  simp only [chans, List.map_cons, bwR] at this ⊢
  rw [this]
  simp [chanC,  bwL, bwC, qBv, qC7, qB6, qBt]
theorem chans_free (l : List Chan) : free (chans .bw l) ↔ True := by
 simp only [iff_true]
 intro r hr c hc
 simp only [chans, List.mem_map] at hr
 obtain ⟨x, _, rfl⟩ := hr
 simp [chanC] at hc
 rcases hc with rfl | rfl | rfl <;> rfl
structure Note where
 who : Int
 v : Int
 deriving DecidableEq, Inhabited
def noteC (x : Note) : List AV := [.int .i64 x.who, .int .i64 x.v]
def notes (l : List Note) : List (List AV) := l.map noteC
theorem notes_nil : notes [] = [] := rfl
theorem notes_length (l : List Note) : (notes l).length = l.length := by simp [notes]
theorem qA9 (l k : List Note) : notes l ++ notes k = notes (l ++ k) := by simp [notes]
theorem qAg (who_ : Int) (v_ : Int) : [[.int .i64 who_, .int .i64 v_]] = notes [⟨who_, v_⟩] := rfl
theorem notes_drop (l : List Note) (n : Nat) : (notes l).drop n = notes (l.drop n) := by simp [notes]
theorem notes_take (l : List Note) (n : Nat) : (notes l).take n = notes (l.take n) := by simp [notes]
theorem notes_rep (n : Nat) (who_ : Int) (v_ : Int) : List.replicate n [.int .i64 who_, .int .i64 v_] = notes (List.replicate n ⟨who_, v_⟩) := by simp [notes, noteC]
theorem notes_set (l : List Note) (i : Nat) (who_ : Int) (v_ : Int) : (notes l).set i [.int .i64 who_, .int .i64 v_] = notes (l.set i ⟨who_, v_⟩) := by simp [notes, noteC]
theorem qCj (l : List Note) (i : Nat) (h : i < l.length) : (notes l).getD i [] = [.int .i64 (l.getD i default).who, .int .i64 (l.getD i default).v] := by simp [notes, noteC, List.getD_eq_getElem?_getD, h]
theorem qBu (A : Nat → Prop) (l : List Note) : bndr A (notes l) ↔ True := by
 simp only [iff_true]
 induction l with
 | nil => trivial
 | cons x l ih => exact ⟨by simp [noteC,  bnds, bnd, nf_sl, qAh, qBn, qB0, qBh, qBp], ih⟩
theorem qBz (l : List Note) : nbr (notes l) ↔ True := by
 simp only [iff_true]
 induction l with
 | nil => trivial
 | cons x l ih => exact ⟨by simp [noteC,  nbs, nb, qBr, qCd, qBc, qC1, qC9], ih⟩
theorem qC8 : ∀ (l : List Note), bwR (notes l) = notes l
 | [] => rfl
 | x :: l => by
  have := qC8 l
  simp only [notes, List.map_cons, bwR] at this ⊢
  rw [this]
  simp [noteC,  bwL, bwC, qBv, qC7, qB6, qBt, qC3]
theorem notes_free (l : List Note) : free (notes l) ↔ True := by
 simp only [iff_true]
 intro r hr c hc
 simp only [notes, List.mem_map] at hr
 obtain ⟨x, _, rfl⟩ := hr
 simp [noteC] at hc
 rcases hc with rfl | rfl <;> rfl
structure Thread where
 at_ : Int
 regs : List Int
 st : Int
 deriving DecidableEq, Inhabited
def threadC (m : Mode) (x : Thread) : List AV := [.int .i64 x.at_, .sl m 1 (ints x.regs), .int .i64 x.st]
def threads (m : Mode) (l : List Thread) : List (List AV) := l.map (threadC m)
theorem threads_nil (m : Mode) : threads m [] = [] := rfl
theorem threads_length (m : Mode) (l : List Thread) : (threads m l).length = l.length := by simp [threads]
theorem threads_append (m : Mode) (l k : List Thread) : threads m l ++ threads m k = threads m (l ++ k) := by simp [threads]
theorem threads_drop (m : Mode) (l : List Thread) (n : Nat) : (threads m l).drop n = threads m (l.drop n) := by simp [threads]
theorem threads_take (m : Mode) (l : List Thread) (n : Nat) : (threads m l).take n = threads m (l.take n) := by simp [threads]
theorem threads_set (m : Mode) (l : List Thread) (i : Nat) (at__ : Int) (regs_ : List Int) (st_ : Int) : (threads m l).set i [.int .i64 at__, .sl m 1 (ints regs_), .int .i64 st_] = threads m (l.set i ⟨at__, regs_, st_⟩) := by simp [threads, threadC]
theorem qB9 (A : Nat → Prop) (m : Mode) (l : List Thread) : bndr A (threads m l) ↔ True := by
 simp only [iff_true]
 induction l with
 | nil => trivial
 | cons x l ih => exact ⟨by simp [threadC,  bnds, bnd, nf_sl, qAh, qBn, qB0, qBh, qBp, qBu], ih⟩
theorem qBl (l : List Thread) : nbr (threads .own l) ↔ True := by
 simp only [iff_true]
 induction l with
 | nil => trivial
 | cons x l ih => exact ⟨by simp [threadC,  nbs, nb, qBr, qCd, qBc, qC1, qC9, qBz], ih⟩
theorem qBg (m : Mode) : ∀ (l : List Thread), bwR (threads m l) = threads .bw l
 | [] => rfl
 | x :: l => by
  have := qBg m l
  simp only [threads, List.map_cons, bwR] at this ⊢
  rw [this]
  simp [threadC,  bwL, bwC, qBv, qC7, qB6, qBt, qC3, qC8]
theorem threads_free (l : List Thread) : free (threads .bw l) ↔ True := by
 simp only [iff_true]
 intro r hr c hc
 simp only [threads, List.mem_map] at hr
 obtain ⟨x, _, rfl⟩ := hr
 simp [threadC] at hc
 rcases hc with rfl | rfl | rfl <;> rfl
structure Went where
 sent : List Int
 taken : List Int
 deriving DecidableEq, Inhabited
def wentC (m : Mode) (x : Went) : List AV := [.sl m 1 (ints x.sent), .sl m 1 (ints x.taken)]
def wents (m : Mode) (l : List Went) : List (List AV) := l.map (wentC m)
theorem wents_nil (m : Mode) : wents m [] = [] := rfl
theorem wents_length (m : Mode) (l : List Went) : (wents m l).length = l.length := by simp [wents]
theorem wents_append (m : Mode) (l k : List Went) : wents m l ++ wents m k = wents m (l ++ k) := by simp [wents]
theorem wents_drop (m : Mode) (l : List Went) (n : Nat) : (wents m l).drop n = wents m (l.drop n) := by simp [wents]
theorem wents_take (m : Mode) (l : List Went) (n : Nat) : (wents m l).take n = wents m (l.take n) := by simp [wents]
theorem wents_set (m : Mode) (l : List Went) (i : Nat) (sent_ : List Int) (taken_ : List Int) : (wents m l).set i [.sl m 1 (ints sent_), .sl m 1 (ints taken_)] = wents m (l.set i ⟨sent_, taken_⟩) := by simp [wents, wentC]
theorem qCb (A : Nat → Prop) (m : Mode) (l : List Went) : bndr A (wents m l) ↔ True := by
 simp only [iff_true]
 induction l with
 | nil => trivial
 | cons x l ih => exact ⟨by simp [wentC,  bnds, bnd, nf_sl, qAh, qBn, qB0, qBh, qBp, qBu, qB9], ih⟩
theorem wents_nb (l : List Went) : nbr (wents .own l) ↔ True := by
 simp only [iff_true]
 induction l with
 | nil => trivial
 | cons x l ih => exact ⟨by simp [wentC,  nbs, nb, qBr, qCd, qBc, qC1, qC9, qBz, qBl], ih⟩
theorem qCp (m : Mode) : ∀ (l : List Went), bwR (wents m l) = wents .bw l
 | [] => rfl
 | x :: l => by
  have := qCp m l
  simp only [wents, List.map_cons, bwR] at this ⊢
  rw [this]
  simp [wentC,  bwL, bwC, qBv, qC7, qB6, qBt, qC3, qC8, qBg]
theorem wents_free (l : List Went) : free (wents .bw l) ↔ True := by
 simp only [iff_true]
 intro r hr c hc
 simp only [wents, List.mem_map] at hr
 obtain ⟨x, _, rfl⟩ := hr
 simp [wentC] at hc
 rcases hc with rfl | rfl <;> rfl
structure Prog where
 caps : List Int
 bods : List (List Ins)
 deriving DecidableEq, Inhabited
def progC (m : Mode) (x : Prog) : List AV := [.sl m 1 (ints x.caps), .sl m 1 (bodies m x.bods)]
def progs (m : Mode) (l : List Prog) : List (List AV) := l.map (progC m)
theorem progs_nil (m : Mode) : progs m [] = [] := rfl
theorem progs_length (m : Mode) (l : List Prog) : (progs m l).length = l.length := by simp [progs]
theorem progs_append (m : Mode) (l k : List Prog) : progs m l ++ progs m k = progs m (l ++ k) := by simp [progs]
theorem progs_drop (m : Mode) (l : List Prog) (n : Nat) : (progs m l).drop n = progs m (l.drop n) := by simp [progs]
theorem progs_take (m : Mode) (l : List Prog) (n : Nat) : (progs m l).take n = progs m (l.take n) := by simp [progs]
theorem progs_set (m : Mode) (l : List Prog) (i : Nat) (caps_ : List Int) (bods_ : List (List Ins)) : (progs m l).set i [.sl m 1 (ints caps_), .sl m 1 (bodies m bods_)] = progs m (l.set i ⟨caps_, bods_⟩) := by simp [progs, progC]
theorem qCm (A : Nat → Prop) (m : Mode) (l : List Prog) : bndr A (progs m l) ↔ True := by
 simp only [iff_true]
 induction l with
 | nil => trivial
 | cons x l ih => exact ⟨by simp [progC,  bnds, bnd, nf_sl, qAh, qBn, qB0, qBh, qBp, qBu, qB9, qCb], ih⟩
theorem progs_nb (l : List Prog) : nbr (progs .own l) ↔ True := by
 simp only [iff_true]
 induction l with
 | nil => trivial
 | cons x l ih => exact ⟨by simp [progC,  nbs, nb, qBr, qCd, qBc, qC1, qC9, qBz, qBl, wents_nb], ih⟩
theorem progs_bw (m : Mode) : ∀ (l : List Prog), bwR (progs m l) = progs .bw l
 | [] => rfl
 | x :: l => by
  have := progs_bw m l
  simp only [progs, List.map_cons, bwR] at this ⊢
  rw [this]
  simp [progC,  bwL, bwC, qBv, qC7, qB6, qBt, qC3, qC8, qBg, qCp]
theorem progs_free (l : List Prog) : free (progs .bw l) ↔ True := by
 simp only [iff_true]
 intro r hr c hc
 simp only [progs, List.mem_map] at hr
 obtain ⟨x, _, rfl⟩ := hr
 simp [progC] at hc
 rcases hc with rfl | rfl <;> rfl
structure Source where
 ths : List Thread
 chs : List Chan
 tr : List Note
 deriving DecidableEq, Inhabited
def sourceC (m : Mode) (x : Source) : List AV := [.sl m 3 (threads m x.ths), .sl m 3 (chans m x.chs), .sl m 2 (notes x.tr)]
def sources (m : Mode) (l : List Source) : List (List AV) := l.map (sourceC m)
theorem sources_nil (m : Mode) : sources m [] = [] := rfl
theorem sources_length (m : Mode) (l : List Source) : (sources m l).length = l.length := by simp [sources]
theorem sources_append (m : Mode) (l k : List Source) : sources m l ++ sources m k = sources m (l ++ k) := by simp [sources]
theorem sources_drop (m : Mode) (l : List Source) (n : Nat) : (sources m l).drop n = sources m (l.drop n) := by simp [sources]
theorem sources_take (m : Mode) (l : List Source) (n : Nat) : (sources m l).take n = sources m (l.take n) := by simp [sources]
theorem sources_set (m : Mode) (l : List Source) (i : Nat) (ths_ : List Thread) (chs_ : List Chan) (tr_ : List Note) : (sources m l).set i [.sl m 3 (threads m ths_), .sl m 3 (chans m chs_), .sl m 2 (notes tr_)] = sources m (l.set i ⟨ths_, chs_, tr_⟩) := by simp [sources, sourceC]
theorem qBx (A : Nat → Prop) (m : Mode) (l : List Source) : bndr A (sources m l) ↔ True := by
 simp only [iff_true]
 induction l with
 | nil => trivial
 | cons x l ih => exact ⟨by simp [sourceC,  bnds, bnd, nf_sl, qAh, qBn, qB0, qBh, qBp, qBu, qB9, qCb, qCm], ih⟩
theorem qCh (l : List Source) : nbr (sources .own l) ↔ True := by
 simp only [iff_true]
 induction l with
 | nil => trivial
 | cons x l ih => exact ⟨by simp [sourceC,  nbs, nb, qBr, qCd, qBc, qC1, qC9, qBz, qBl, wents_nb, progs_nb], ih⟩
theorem qC5 (m : Mode) : ∀ (l : List Source), bwR (sources m l) = sources .bw l
 | [] => rfl
 | x :: l => by
  have := qC5 m l
  simp only [sources, List.map_cons, bwR] at this ⊢
  rw [this]
  simp [sourceC,  bwL, bwC, qBv, qC7, qB6, qBt, qC3, qC8, qBg, qCp, progs_bw]
theorem sources_free (l : List Source) : free (sources .bw l) ↔ True := by
 simp only [iff_true]
 intro r hr c hc
 simp only [sources, List.mem_map] at hr
 obtain ⟨x, _, rfl⟩ := hr
 simp [sourceC] at hc
 rcases hc with rfl | rfl | rfl <;> rfl
def bys (l : List Int) : List (List AV) := l.map fun b => [.int .u8 b]
theorem bys_nil : bys [] = [] := rfl
theorem bys_length (l : List Int) : (bys l).length = l.length := by simp [bys]
theorem bys_append (l k : List Int) : bys l ++ bys k = bys (l ++ k) := by simp [bys]
theorem bys_drop (l : List Int) (n : Nat) : (bys l).drop n = bys (l.drop n) := by simp [bys]
theorem bys_take (l : List Int) (n : Nat) : (bys l).take n = bys (l.take n) := by simp [bys]
theorem bys_set (l : List Int) (i : Nat) (b_ : Int) : (bys l).set i [.int .u8 b_] = bys (l.set i b_) := by simp [bys]
theorem bys_bnd (A : Nat → Prop) (l : List Int) : bndr A (bys l) ↔ True := by
 simp only [iff_true]
 induction l with
 | nil => trivial
 | cons x l ih => exact ⟨by simp [ bnds, bnd, nf_sl, qAh, qBn, qB0, qBh, qBp, qBu, qB9, qCb, qCm, qBx], ih⟩
theorem bys_nb (l : List Int) : nbr (bys l) ↔ True := by
 simp only [iff_true]
 induction l with
 | nil => trivial
 | cons x l ih => exact ⟨by simp [ nbs, nb, qBr, qCd, qBc, qC1, qC9, qBz, qBl, wents_nb, progs_nb, qCh], ih⟩
theorem bys_bw : ∀ (l : List Int), bwR (bys l) = bys l
 | [] => rfl
 | x :: l => by
  have := bys_bw l
  simp only [bys, List.map_cons, bwR] at this ⊢
  rw [this]
  simp [ bwL, bwC, qBv, qC7, qB6, qBt, qC3, qC8, qBg, qCp, progs_bw, qC5]
theorem bys_free (l : List Int) : free (bys l) ↔ True := by
 simp only [iff_true]
 intro r hr c hc
 simp only [bys, List.mem_map] at hr
 obtain ⟨x, _, rfl⟩ := hr
 simp [] at hc
 rcases hc with rfl <;> rfl
theorem fS : (∀ n, del [] n = []) ∧ (∀ m s h n, del ((m, s) :: h) n = if n = m then del h n else (m, s) :: del h n) ∧ (∀ n r, put [] n r = [(n, r)]) ∧ (∀ m s h n r, put ((m, s) :: h) n r = if n = m then (m, r) :: h else (m, s) :: put h n r) ∧ (∀ {α : Type} (a b : α) (l : List α), (a :: l).set 0 b = b :: l) ∧ (∀ {α : Type} (a b : α) (l : List α) (n : Nat), (a :: l).set (n + 1) b = a :: l.set n b) ∧ (∀ {α : Type} (a b : α), (if True then a else b) = a) ∧ (∀ {α : Type} (a b : α), (if False then a else b) = b) ∧ (∀ l, (ints l).length = l.length) ∧ (∀ l n, (ints l).take n = ints (l.take n)) ∧ (∀ l n, (ints l).drop n = ints (l.drop n)) ∧ (∀ o l rows, partR o l rows = if o = 0 ∧ rows.length = l then rows else (rows.drop o).take l) ∧ (∀ {α : Type} (a : α) (l : List α), (a :: l).length = l.length + 1) ∧ (∀ {α : Type}, ([] : List α).length = 0) ∧ (∀ p : Prop, (p ∧ p) = p) ∧ (∀ p : Prop, (p ∧ True) = p) ∧ (∀ p : Prop, (True ∧ p) = p) ∧ (∀ l, (inss l).length = l.length) ∧ (∀ m l, (bodies m l).length = l.length) ∧ (∀ m l, (intss m l).length = l.length) ∧ (∀ m l, (chans m l).length = l.length) ∧ (∀ l, (notes l).length = l.length) ∧ (∀ m l, (threads m l).length = l.length) ∧ (∀ m l, (wents m l).length = l.length) ∧ (∀ m l, (progs m l).length = l.length) ∧ (∀ m l, (sources m l).length = l.length) ∧ (∀ l, (bys l).length = l.length) ∧ (∀ {α : Type} (a b : List α), (a ++ b).length = a.length + b.length) ∧ (∀ {α : Type} (n : Nat) (a : α), (List.replicate n a).length = n) ∧ (∀ {α : Type} (l : List α) (n : Nat) (a : α), (l.set n a).length = l.length) := by
 refine ⟨?_, ?_, ?_, ?_, ?_, ?_, ?_, ?_, ?_, ?_, ?_, ?_, ?_, ?_, ?_, ?_, ?_, ?_, ?_, ?_, ?_, ?_, ?_, ?_, ?_, ?_, ?_, ?_, ?_, ?_⟩ <;> intros <;> simp [del, put, partR, qCu, inss_length, bodies_length, intss_length, chans_length, notes_length, threads_length, wents_length, progs_length, sources_length, bys_length]
attribute [go_sem] paramT preH e_seq e_reg e_block e_loop e_ops e_skip e_ret e_cond e_guard e_call e_ops1 plan next_ok next_some Arg.ev lookT putD putT if_false if_true app1 put del qCu binA Option.map_some Option.bind_some look Int.toNat_natCast e_blk e_stop e_exit exitIt true_and and_true maybe_do maybe_tf maybe_ft branch_true branch_false Bool.false_eq_true bnd? cellsOf openL List.isEmpty_nil List.isEmpty_cons fresh List.map_nil List.map_cons List.cons_append List.nil_append splice List.take_zero List.drop_zero List.take_succ_cons List.getD_cons_zero List.length_cons List.length_nil List.drop_succ_cons List.drop_nil List.append_nil List.all_cons List.all_nil cellOk Bool.and_self Nat.zero_add e_dreg e_done e_take e_only1 e_onlyc e_takeg e_onlyg e_both e_tri dnext_some dnext_ok dmaybe_do rdTake pdTake addP rdOnly pdOnly isRead alive needs undep apart List.filter_nil List.filter_cons Option.isSome_some Option.isSome_none List.contains_nil List.contains_cons List.forall_mem_cons List.mem_cons List.not_mem_nil false_implies implies_true forall_const forall_eq_or_imp forall_eq or_false beq_self_eq_true Bool.or_false Bool.false_or Bool.true_or Bool.or_true Bool.not_true Bool.not_false xv xo xg xr xi xz List.set_set maybe_skip dmaybe_skip dmaybe_tf dmaybe_ft fillR fillROk fillA fillOk srcA eqC bytesOf ints_append List.replicate_zero decide_true decide_false ints_set nil_bind List.replicate_succ Int.toNat_zero Int.toNat_one eq_self Bool.and_true Bool.true_and Bool.and_false Bool.false_and List.set_cons_zero List.set_cons_succ List.getD_cons_succ rnm ixm renV renL openV openVs cond_true cond_false ints_drop ints_take drop_all inss_length inss_append inss_drop inss_take inss_set insC bodies_length bodies_append bodies_drop bodies_take bodies_set intss_length intss_append intss_drop intss_take intss_set chans_length chans_append chans_drop chans_take chans_set chanC notes_length qA9 notes_drop notes_take notes_set noteC threads_length threads_append threads_drop threads_take threads_set threadC wents_length wents_append wents_drop wents_take wents_set wentC progs_length progs_append progs_drop progs_take progs_set progC sources_length sources_append sources_drop sources_take sources_set sourceC bys_length bys_append bys_drop bys_take bys_set
attribute [simp] hand bwT bwC bwL qBv ints_take lookT Arg.ev handOk bwOk bwOks bwTs nf_sl nf_int nf_bool qAh okV okL nb nbs nbr qBr look qCu bnd bnds bndr renV renL ixm rnm apart needs rdOnly pdOnly fresh openV openVs resAV allP giveL giveV postH del isOwn partR ints_drop drop_all shp okB okBs ints_free nilL_cons nilL_nil nilV_agg nilV_tup nilV_nilsl nilV_nil nilV_sl nilV_int nilV_bool nilV_str nilV_ns nilV_ptr nilRs_cons nilRs_nil free_nil free_cons inss_nil qC7 qBn qCd inss_length inss_take inss_drop inss_free bodies_nil qB6 qB0 qBc bodies_length bodies_take bodies_drop bodies_free intss_nil qBt qBh qC1 intss_length intss_take intss_drop intss_free chans_nil qC3 qBp qC9 chans_length chans_take chans_drop chans_free notes_nil qC8 qBu qBz notes_length notes_take notes_drop notes_free threads_nil qBg qB9 qBl threads_length threads_take threads_drop threads_free wents_nil qCp qCb wents_nb wents_length wents_take wents_drop wents_free progs_nil progs_bw qCm progs_nb progs_length progs_take progs_drop progs_free sources_nil qC5 qBx qCh sources_length sources_take sources_drop sources_free bys_nil bys_bw bys_bnd bys_nb bys_length bys_take bys_drop bys_free insC chanC noteC threadC wentC progC sourceC
theorem qAo {rs : List MRes} {fp : FP} {v : AV} {s : AS} {t : List (Nat × AV)} {h : Heap} {nx : Nat} (hs : Sub s (.mk t h nx)) (h1 : allP (rs.map fun r => (resAV t h r).2) ∧ (giveL h (rs.map fun r => (resAV t h r).1)).2.2 ∧ nilL (giveL h (rs.map fun r => (resAV t h r).1)).1 [v] ∧ ∀ x ∈ fp, look (giveL h (rs.map fun r => (resAV t h r).1)).2.1 x.1 = look (postH fp) x.1) : Fin rs fp v s :=
 ⟨_, hs, qB5 h1⟩
theorem qAj {rs : List MRes} {fp : FP} {vs : List AV} {s : AS} {t : List (Nat × AV)} {h : Heap} {nx : Nat} (h0 : vs.length ≠ 1) (hs : Sub s (.mk t h nx)) (h1 : allP (rs.map fun r => (resAV t h r).2) ∧ (giveL h (rs.map fun r => (resAV t h r).1)).2.2 ∧ nilL (giveL h (rs.map fun r => (resAV t h r).1)).1 vs ∧ ∀ x ∈ fp, look (giveL h (rs.map fun r => (resAV t h r).1)).2.1 x.1 = look (postH fp) x.1) : Fin rs fp (.tup vs) s :=
 ⟨_, hs, qBq h0 h1⟩
theorem qCr {P : Program} {num : Nat → Nat} {fin : AS → Prop} {op : MOp} {dst : Option Nat} {k : List It} {s : AS} {t : List (Nat × AV)} {h : Heap} {nx : Nat} (hs : Sub s (.mk t h nx)) (h1 : calls P num fin op dst k (.mk t h nx)) : calls P num fin op dst k s := calls_sub hs h1
theorem K {p q : Prop} (k : q) (h : p := by first | omega | (simp [-List.getD_eq_getElem?_getD]; first | done | omega)) : p ∧ q := ⟨h, k⟩
theorem CA {P : Program} {num : Nat → Nat} {fin : AS → Prop} {f nx : Nat} {ps : List Bool} {xs : List Arg} {t : List (Nat × AV)} {h : Heap} {fp : FP} {res : AV} {vargs : List AV} {dst : Option Nat} {k : List It} (σ : List (Nat × Nat)) (hc : CallOk P num f vargs fp res)
  (hk : vc P num fin k (.mk (putD t dst (openV nx (renV (rnm σ) res)).1) (app1 h (fp.map (fun x => (rnm σ x.1, x.2)) ++ fresh (openV nx (renV (rnm σ) res)).2.1)) (openV nx (renV (rnm σ) res)).2.2))
  (hv : nilL (hand (ixm σ) h ps (xs.map (Arg.ev (lookT t)))) vargs := by first | omega | (simp [nilL, nilV]; done) | (simp [nilL, nilV, *]; done))
  (hvo : handOk h (fun n => ∃ x ∈ fp, x.2.1 ≠ none ∧ n = rnm σ x.1 ∧ ixm σ n = x.1) (fun n => ∃ x ∈ fp, n = rnm σ x.1) ps (xs.map (Arg.ev (lookT t))) := by first | omega | (simp [nilL, nilV]; done) | (simp [nilL, nilV, *]; done))
  (hnd : (fp.map (fun x => rnm σ x.1)).Nodup := by first | (simp [nilL, nilV]; done) | (simp [nilL, nilV, *]; done))
  (hpre : ∀ x ∈ fp, look h (rnm σ x.1) = x.2.1 ∧ (x.2.1 = none → nx ≤ rnm σ x.1) ∧ rnm σ x.1 < nx := by first | (simp [nilL, nilV]; done) | (simp [nilL, nilV, *]; done))
  (hnb : ∀ x ∈ fp, (∀ r, x.2.1 = some r → nbr r.2) ∧ (∀ r, x.2.2 = some r → nbr r.2) := by first | (simp [nilL, nilV]; done) | (simp [nilL, nilV, *]; done))
  (hres : okV (fun k => ∃ x ∈ fp, x.1 = k ∧ x.2.2 ≠ none) res := by first | (simp [nilL, nilV]; done) | (simp [nilL, nilV, *]; done)) : calls P num fin (.call f ps xs) dst k (.mk t h nx) :=
 calls_intro (call_ok0 σ hc hv hvo hnd hpre hnb hres) hk
theorem DA {P : Program} {num : Nat → Nat} {fin : AS → Prop} {f nx : Nat} {ps : List Bool} {xs : List Arg} {t : List (Nat × AV)} {h : Heap} {fp : FP} {res : AV} {vargs : List AV} {pend : List (Nat × List Nat)} {dst : Option Nat} {tr : DTree} {k : List It} (σ : List (Nat × Nat)) (hc : CallOk P num f vargs fp res)
  (hk : vc P num fin (.draw tr pend :: k) (.mk (putD t dst (openV nx (renV (rnm σ) res)).1) (app1 h (fp.map (fun x => (rnm σ x.1, x.2)) ++ fresh (openV nx (renV (rnm σ) res)).2.1)) (openV nx (renV (rnm σ) res)).2.2))
  (hv : nilL (hand (ixm σ) h ps (xs.map (Arg.ev (lookT t)))) vargs := by first | omega | (simp [nilL, nilV]; done) | (simp [nilL, nilV, *]; done))
  (hvo : handOk h (fun n => ∃ x ∈ fp, x.2.1 ≠ none ∧ n = rnm σ x.1 ∧ ixm σ n = x.1) (fun n => ∃ x ∈ fp, n = rnm σ x.1) ps (xs.map (Arg.ev (lookT t))) := by first | omega | (simp [nilL, nilV]; done) | (simp [nilL, nilV, *]; done))
  (hnd : (fp.map (fun x => rnm σ x.1)).Nodup := by first | (simp [nilL, nilV]; done) | (simp [nilL, nilV, *]; done))
  (hpre : ∀ x ∈ fp, look h (rnm σ x.1) = x.2.1 ∧ (x.2.1 = none → nx ≤ rnm σ x.1) ∧ rnm σ x.1 < nx := by first | (simp [nilL, nilV]; done) | (simp [nilL, nilV, *]; done))
  (hnb : ∀ x ∈ fp, (∀ r, x.2.1 = some r → nbr r.2) ∧ (∀ r, x.2.2 = some r → nbr r.2) := by first | (simp [nilL, nilV]; done) | (simp [nilL, nilV, *]; done))
  (hres : okV (fun k => ∃ x ∈ fp, x.1 = k ∧ x.2.2 ≠ none) res := by first | (simp [nilL, nilV]; done) | (simp [nilL, nilV, *]; done))
  (ha : apart pend (fp.map (fun x => (rnm σ x.1, x.2)) ++ fresh (openV nx (renV (rnm σ) res)).2.1) := by first | (simp [nilL, nilV]; done) | (simp [nilL, nilV, *]; done)) : dcall P num fin (.call f ps xs) pend dst tr k t h nx :=
 dcall_intro (call_ok0 σ hc hv hvo hnd hpre hnb hres) ha hk
theorem toIntS_ok (xs : List Int) (hx : 8 * xs.length ≤ 2 ^ 47) : CallOk Try.prog num 5 [.sl .bw 1 (ints xs)] [] (.sl .own 1 (ints xs)) := by
 refine EN m5 Try.func117 ?_
 unfold m5
 simp only [go_sem, qA, qB, qC, qD, qE, qF, qG, qH]
 refine ⟨by omega, qA7 (ι := Nat) (fun i => .mk [(0, .sl .bw 1 (ints xs)), (3, .ns 10 0 xs.length), (4, .int .i64 i)] [(10, 1, ints (xs.take i ++ List.replicate (xs.length - i) 0))] 11) (fun i => i ≤ xs.length) (fun i => xs.length - i) 0 (by omega) ?_ ?_⟩
 ·refine Sub.shape [] id (by omega) ?_ ?_ ?_ ?_ <;> simp [qA3]
 ·intro i hi
  simp only [go_sem, qA, qB, qC, qD, qE, qF, qG, qH]
  refine qA2 (fun hc => ?_) (fun hc => ?_)
  ·simp only [decide_eq_true_eq] at hc
   have hl : i < xs.length := by omega
   have hm : (xs.take i ++ List.replicate (xs.length - i) (0 : Int)).length = xs.length := by simp; omega
   have hs : (xs.take i ++ List.replicate (xs.length - i) (0 : Int)).set i (xs.getD i 0) = xs.take (i + 1) ++ List.replicate (xs.length - (i + 1)) 0 := by
    have h1 : xs.length - i = (xs.length - (i + 1)) + 1 := by omega
    rw [List.set_append_right _ _ (by simp; omega), List.length_take, Nat.min_eq_left hi, Nat.sub_self, h1, List.replicate_succ, List.set_cons_zero, List.take_succ_eq_append_getElem hl, List.append_assoc]
    congr 1
    simp [List.getD_eq_getElem?_getD, hl]
   have hw := qA6 (i := i) (by omega)
   simp only [go_sem, qA, qB, qC, qD, qE, qF, qG, qH, qA0 xs i hl, qA0 _ i (hm ▸ hl), hm, ints_set, hs, hw]
   refine ⟨by omega, by omega, by omega, by omega, qA8 (i + 1) (Sub.shape [] id (by omega) ?_ ?_ ?_ ?_) hl (by omega)⟩ <;> simp [qA3]
  ·simp only [decide_eq_false_iff_not] at hc
   have : i = xs.length := by omega
   subst this
   simp only [go_sem, qA, qB, qC, qD, qE, qF, qG, qH]
   refine ⟨_, Sub.refl _, ?_⟩
   simp [FinS, nilL, nilV, oneOr, -List.drop_one]
theorem eqIntS_ok (xs ys : List Int) (hx : xs.length ≤ 2 ^ 47) : CallOk Try.prog num 8 [.sl .bw 1 (ints xs), .sl .bw 1 (ints ys)] [] (.bool (decide (xs = ys))) := by
 refine EN m8 Try.func124 ?_
 unfold m8
 simp only [go_sem, qA, qB, qC, qD, qE, qF, qG, qH]
 refine qA2 (fun hc => ?_) (fun hc => ?_)
 ·have hne : xs ≠ ys := fun he => by subst he; simp at hc
  simp only [go_sem, qA, qB, qC, qD, qE, qF, qG, qH]
  refine ⟨_, Sub.refl _, ?_⟩
  simp [FinS, nilL, nilV, oneOr, -List.drop_one]
  exact hne
 ·have hl : xs.length = ys.length := by simp at hc; omega
  simp only [go_sem, qA, qB, qC, qD, qE, qF, qG, qH]
  refine qA7 (ι := Nat) (fun i => .mk [(0, .sl .bw 1 (ints xs)), (1, .sl .bw 1 (ints ys)), (5, .int .i64 i)] [] 10) (fun i => i ≤ xs.length ∧ xs.take i = ys.take i) (fun i => xs.length - i) 0 (by simp) ?_ ?_
  ·refine Sub.shape [] id (by omega) ?_ ?_ ?_ ?_ <;> simp [qA3]
  ·rintro i ⟨hi, hp⟩
   simp only [go_sem, qA, qB, qC, qD, qE, qF, qG, qH]
   refine qA2 (fun hc => ?_) (fun hc => ?_)
   ·simp only [decide_eq_true_eq] at hc
    have hil : i < xs.length := by omega
    have hjl : i < ys.length := by omega
    simp only [go_sem, qA, qB, qC, qD, qE, qF, qG, qH, qA0 xs i hil, qA0 ys i hjl]
    refine ⟨by omega, by omega, by omega, by omega, qA2 (fun hc => ?_) (fun hc => ?_)⟩
    ·have hne : xs ≠ ys := fun he => by subst he; simp at hc
     simp only [go_sem, qA, qB, qC, qD, qE, qF, qG, qH]
     refine ⟨_, Sub.refl _, ?_⟩
     simp [FinS, nilL, nilV, oneOr, -List.drop_one]
     exact hne
    ·have hw := qA6 (i := i) (by omega)
     simp only [go_sem, qA, qB, qC, qD, qE, qF, qG, qH, hw]
     have he : xs.getD i 0 = ys.getD i 0 := by simpa using hc
     refine qA8 (i + 1) (Sub.shape [] id (by omega) ?_ ?_ ?_ ?_) ⟨hil, ?_⟩ (by omega)
     case refine_5 =>
      rw [List.take_succ_eq_append_getElem hil, List.take_succ_eq_append_getElem hjl, hp]
      have he' : xs[i] = ys[i] := by simpa [List.getD_eq_getElem?_getD, hil, hjl] using he
      rw [he']
     all_goals simp [qA3]
   ·simp only [decide_eq_false_iff_not] at hc
    have hi' : i = xs.length := by omega
    have he : xs = ys := by
     rw [hi', List.take_length, hl, List.take_length] at hp
     exact hp
    simp only [go_sem, qA, qB, qC, qD, qE, qF, qG, qH]
    refine ⟨_, Sub.refl _, ?_⟩
    simp [FinS, nilL, nilV, oneOr, -List.drop_one]
    exact he
def szL (k : Nat) (n : Int) : Int := if n - k < 0 then -1 else n - k
theorem szIntS_ok (xs : List Int) (n : Int) (hx : xs.length < 2 ^ 63) (h0 : 0 ≤ n) (h1 : n ≤ 2 ^ 62) : CallOk Try.prog num 35 [.sl .bw 1 (ints xs), .int .i64 n] [] (.int .i64 (szL xs.length n)) := by
 refine EN m35 Try.func111 ?_
 unfold m35
 have hw : IntKind.i64.wrap (n - xs.length) = n - xs.length := qAs (by omega) (by omega)
 simp only [go_sem, qA, qB, qC, qD, qE, qF, qG, qH, hw]
 refine qA2 (fun hc => ?_) (fun hc => ?_)
 ·simp only [go_sem, qA, qB, qC, qD, qE, qF, qG, qH]
  refine fz ?_; simp [FinS, nilL, nilV, oneOr, -List.drop_one]
  simp only [decide_eq_true_eq] at hc
  simp [szL, hc]
 ·simp only [go_sem, qA, qB, qC, qD, qE, qF, qG, qH]
  refine fz ?_; simp [FinS, nilL, nilV, oneOr, -List.drop_one]
  simp only [decide_eq_false_iff_not] at hc
  simp [szL, hc]
def marks (k : Int) (n : Nat) : List Int := (List.range n).map fun (i : Nat) => k + i
@[simp] theorem qBd (k : Int) (n : Nat) : (marks k n).length = n := by simp [marks]
@[simp] theorem marks_take (k : Int) (n : Nat) : (marks k n).take n = marks k n := List.take_of_length_le (by simp)
theorem marks_succ (k : Int) (n : Nat) : marks k (n + 1) = marks k n ++ [k + n] := by simp [marks, List.range_succ]
theorem marks_getD (k : Int) (n i : Nat) (h : i < n) : (marks k n).getD i 0 = k + i := by simp [marks, List.getD_eq_getElem?_getD, h]
theorem wrap_add (k : Int) (i : Nat) (h0 : 0 ≤ k) (h1 : k + i < 2 ^ 62) : IntKind.i64.wrap (k + i + 1) = k + ((i + 1 : Nat) : Int) := by rw [qAs (by omega) (by omega)]; omega
theorem marks_set (xs : List Int) (k : Int) (i : Nat) (h : i < xs.length) : (marks k i ++ xs.drop i).set i (k + i) = marks k (i + 1) ++ xs.drop (i + 1) := by
 rw [List.set_append_right _ _ (by simp [qBd]), qBd, Nat.sub_self, List.drop_eq_getElem_cons h, List.set_cons_zero, marks_succ, List.append_assoc]
 rfl
theorem markIntS_ok (xs : List Int) (k : Int) (h0 : 0 ≤ k) (h1 : k + xs.length < 2 ^ 62) : CallOk Try.prog num 16 [.ns 0 0 xs.length, .int .i64 k] [(0, some (1, ints xs), some (1, ints (marks k xs.length)))] (.int .i64 (k + xs.length)) := by
 refine EH m16 Try.func92 ?_
 unfold m16
 simp only [go_sem, qA, qB, qC, qD, qE, qF, qG, qH]
 refine qA7 (ι := Nat) (fun i => .mk [(0, .ns 0 0 xs.length), (1, .int .i64 (k + i)), (5, .int .i64 i)] [(0, 1, ints (marks k i ++ xs.drop i))] 10) (fun i => i ≤ xs.length) (fun i => xs.length - i) 0 (by omega) ?_ ?_
 ·refine Sub.shape [] id (by omega) ?_ ?_ ?_ ?_ <;> simp [qA3]
  simp [marks]
 ·intro i hi
  have hm : (marks k i ++ xs.drop i).length = xs.length := by simp [qBd]; omega
  simp only [go_sem, qA, qB, qC, qD, qE, qF, qG, qH, hm]
  refine qA2 (fun hc => ?_) (fun hc => ?_)
  ·simp only [decide_eq_true_eq] at hc
   have hl : i < xs.length := by omega
   simp only [go_sem, qA, qB, qC, qD, qE, qF, qG, qH, qA0 _ i (hm ▸ hl), hm, ints_set, marks_set xs k i hl, wrap_add k i h0 (by omega), qA6 (i := i) (by omega)]
   repeat refine K ?_
   refine qA8 (i + 1) (Sub.shape [] id (by omega) ?_ ?_ ?_ ?_) ?_ ?_
   any_goals (first | omega | (simp [qA3]; done))
  ·simp only [decide_eq_false_iff_not] at hc
   have : i = xs.length := by omega
   subst this
   simp only [go_sem, qA, qB, qC, qD, qE, qF, qG, qH]
   refine fz ?_; simp [FinS, nilL, nilV, oneOr, -List.drop_one]
theorem heldIntS_ok (n : Nat) (k : Int) (h0 : 0 ≤ k) (h1 : k + n < 2 ^ 62) : CallOk Try.prog num 17 [.sl .bw 1 (ints (marks k n)), .int .i64 k] [] (.int .i64 (k + n)) := by
 refine EN m17 Try.func95 ?_
 unfold m17
 simp only [go_sem, qA, qB, qC, qD, qE, qF, qG, qH, qBd]
 refine qA7 (ι := Nat) (fun i => .mk [(0, .sl .bw 1 (ints (marks k n))), (1, .int .i64 (k + i)), (5, .int .i64 i)] [] 10) (fun i => i ≤ n) (fun i => n - i) 0 (by omega) ?_ ?_
 ·refine Sub.shape [] id (by omega) ?_ ?_ ?_ ?_ <;> simp [qA3]
 ·intro i hi
  simp only [go_sem, qA, qB, qC, qD, qE, qF, qG, qH, qBd]
  refine qA2 (fun hc => ?_) (fun hc => ?_)
  ·simp only [decide_eq_true_eq] at hc
   have hl : i < n := by omega
   simp only [go_sem, qA, qB, qC, qD, qE, qF, qG, qH, qA0 (marks k n) i (by rw [qBd]; exact hl), marks_getD k n i hl, qBd, decide_true, Bool.not_true, wrap_add k i h0 (by omega), qA6 (i := i) (by omega)]
   repeat refine K ?_
   refine qA8 (i + 1) (Sub.shape [] id (by omega) ?_ ?_ ?_ ?_) ?_ ?_
   any_goals (first | omega | (simp [qA3]; done))
  ·simp only [decide_eq_false_iff_not] at hc
   have : i = n := by omega
   subst this
   simp only [go_sem, qA, qB, qC, qD, qE, qF, qG, qH]
   refine fz ?_; simp [FinS, nilL, nilV, oneOr, -List.drop_one]
theorem qCf (xs : List Int) (hx : 8 * xs.length ≤ 2 ^ 47) : CallOk Try.prog num 36 [.sl .bw 1 (ints xs)] [] (.sl .own 1 (ints xs)) := by
 refine EN m36 Try.func81 ?_
 unfold m36
 simp only [go_sem, qA, qB, qC, qD, qE, qF, qG, qH]
 repeat refine K ?_
 refine fz ?_; simp [FinS, nilL, nilV, oneOr, -List.drop_one]
theorem szL_le {k : Nat} {n : Int} (h : 0 ≤ n) : szL k n ≤ n := by unfold szL; split <;> omega
def within (n lo hi : Int) : Bool := decide (lo ≤ n) && decide (n ≤ hi)
theorem within_iff {n lo hi : Int} : within n lo hi = true ↔ lo ≤ n ∧ n ≤ hi := by simp [within]
def numb (b : Bool) : Int := if b then 1 else 0
theorem qAv (n lo hi : Int) : CallOk Try.prog num 59 [.int .i64 n, .int .i64 lo, .int .i64 hi] [] (.bool (within n lo hi)) := by
 refine EN m59 Try.func74 ?_
 unfold m59
 by_cases h1 : lo ≤ n <;> by_cases h2 : n ≤ hi <;> (simp only [go_sem, qA, qB, qC, qD, qE, qF, qG, qH, h1, h2]; refine fz ?_; simp [FinS, nilL, nilV, oneOr, -List.drop_one]; simp [within, h1, h2])
theorem qAy (n lo hi : Int) : CallOk Try.prog num 64 [.int .i64 n, .int .i64 lo, .int .i64 hi] [] (.bool (within n lo hi)) := by
 refine EN m64 Try.func27 ?_
 unfold m64
 by_cases h1 : lo ≤ n <;> by_cases h2 : n ≤ hi <;> (simp only [go_sem, qA, qB, qC, qD, qE, qF, qG, qH, h1, h2]; refine fz ?_; simp [FinS, nilL, nilV, oneOr, -List.drop_one]; simp [within, h1, h2])
theorem number_ok (b : Bool) : CallOk Try.prog num 78 [.bool b] [] (.int .i64 (numb b)) := by
 refine EN m78 Try.func83 ?_
 unfold m78
 cases b <;> (simp only [go_sem, qA, qB, qC, qD, qE, qF, qG, qH]; refine fz ?_; simp [FinS, nilL, nilV, oneOr, -List.drop_one]; simp [numb])
theorem l4Bit_ok (b : Bool) : CallOk Try.prog num 85 [.bool b] [] (.int .i64 (numb b)) := by
 refine EN m85 Try.func68 ?_
 unfold m85
 cases b <;> (simp only [go_sem, qA, qB, qC, qD, qE, qF, qG, qH]; refine fz ?_; simp [FinS, nilL, nilV, oneOr, -List.drop_one]; simp [numb])
theorem copyNotes_ok (l : List Note) (hx : 16 * l.length ≤ 2 ^ 47) : CallOk Try.prog num 69 [.sl .bw 2 (notes l)] [] (.sl .own 2 (notes l)) := by
 refine EN m69 Try.func80 ?_
 unfold m69
 simp only [go_sem, qA, qB, qC, qD, qE, qF, qG, qH]
 repeat refine K ?_
 refine fz ?_; simp [FinS, nilL, nilV, oneOr, -List.drop_one]
def named (x : Ins) : Ins :=
 if x.op = 1 then ⟨x.op, x.r, 0, 0, x.n⟩
 else if x.op = 2 ∨ x.op = 3 ∨ x.op = 4 then ⟨x.op, x.r, x.a, x.b, 0⟩
 else if x.op = 5 ∨ x.op = 12 then ⟨x.op, 0, x.a, 0, x.n⟩
 else if x.op = 6 ∨ x.op = 8 then ⟨x.op, x.r, 0, x.b, x.n⟩
 else if x.op = 7 then ⟨x.op, x.r, x.a, 0, x.n⟩
 else if x.op = 9 ∨ x.op = 11 then ⟨x.op, 0, 0, 0, x.n⟩
 else if x.op = 10 then ⟨x.op, 0, x.a, 0, 0⟩
 else ⟨x.op, 0, 0, 0, 0⟩
theorem within_eq (n lo hi : Int) : within n lo hi = decide (lo ≤ n ∧ n ≤ hi) := by simp [within]
end Go.Sep
