/- Contracts of functions. -/
import Derived.Test.YtjbknbgdfhihcaaGreatUa0
namespace Go.Sep
open Go.Proofs
set_option linter.unusedSimpArgs false
set_option linter.unusedVariables false
set_option maxRecDepth 100000
attribute [local go_sem] paramT preH e_seq e_reg e_block e_loop e_ops e_skip e_ret e_cond e_guard e_call e_ops1 plan next_ok next_some Arg.ev lookT putD putT if_false if_true app1 put del qC3 binA Option.map_some Option.bind_some look Int.toNat_natCast e_blk e_stop e_exit exitIt true_and and_true maybe_do maybe_tf maybe_ft branch_true branch_false Bool.false_eq_true bnd? cellsOf openL List.isEmpty_nil List.isEmpty_cons fresh List.map_nil List.map_cons List.cons_append List.nil_append splice List.take_zero List.drop_zero List.take_succ_cons List.getD_cons_zero List.length_cons List.length_nil List.drop_succ_cons List.drop_nil List.append_nil List.all_cons List.all_nil cellOk Bool.and_self Nat.zero_add e_dreg e_done e_take e_only1 e_onlyc e_takeg e_onlyg e_both e_tri dnext_some dnext_ok dmaybe_do rdTake pdTake addP rdOnly pdOnly isRead alive needs undep apart List.filter_nil List.filter_cons Option.isSome_some Option.isSome_none List.contains_nil List.contains_cons List.forall_mem_cons List.mem_cons List.not_mem_nil false_implies implies_true forall_const forall_eq_or_imp forall_eq or_false beq_self_eq_true Bool.or_false Bool.false_or Bool.true_or Bool.or_true Bool.not_true Bool.not_false xv xo xg xr xi xz List.set_set maybe_skip dmaybe_skip dmaybe_tf dmaybe_ft fillR fillROk fillA fillOk srcA eqC bytesOf ints_append List.replicate_zero decide_true decide_false ints_set nil_bind List.replicate_succ Int.toNat_zero Int.toNat_one eq_self Bool.and_true Bool.true_and Bool.and_false Bool.false_and List.set_cons_zero List.set_cons_succ List.getD_cons_succ rnm ixm renV renL openV openVs cond_true cond_false ints_drop ints_take drop_all
attribute [local simp] hand bwT bwC bwL qC7 ints_take lookT Arg.ev handOk bwOk bwOks bwTs nf_sl nf_int nf_bool qAk okV okL nb nbs nbr qC2 look qC3 bnd bnds bndr renV renL ixm rnm apart needs rdOnly pdOnly fresh openV openVs resAV allP giveL giveV postH del isOwn partR ints_drop drop_all shp okB okBs ints_free
theorem nilRs_refl : ∀ (l : List (List AV)), nilRs l l
 | [] => by simp [nilRs]
 | r :: l => (qDe r r l l).2 ⟨nilL_refl r, nilRs_refl l⟩
theorem nilRs_app : ∀ {a a' b b' : List (List AV)}, nilRs a a' → nilRs b b' → nilRs (a ++ b) (a' ++ b')
 | [], a', b, b', h1, h2 => by
  simp only [nilRs] at h1
  subst h1
  exact h2
 | r :: a, a', b, b', h1, h2 => by
  simp only [nilRs] at h1
  obtain ⟨d, ds, rfl, h3, h4⟩ := h1
  exact (qDe r d _ _).2 ⟨h3, nilRs_app h4 h2⟩
theorem Sub.nilRow (nm : Nat) {t : List (Nat × AV)} {h : Heap} {nx sz : Nat} {rows rows' : List (List AV)} (hl : look h nm = some (sz, rows)) (hn : nilRs rows rows') (hbn : bndr (· < nx) rows') : Sub (.mk t h nx) (.mk t (put h nm (sz, rows')) nx) := by
 rintro B a w ⟨h1, h2, hb, hbt, φ, Lf, hl'⟩
 have hlk : ∀ n, look (put h nm (sz, rows')) n = if n = nm then some (sz, rows') else look h n := fun n => look_put n
 have hne : ∀ n, look (put h nm (sz, rows')) n ≠ none → look h n ≠ none := fun n hn' => by
  rw [hlk] at hn'
  split at hn'
  ·rename_i he; rw [he, hl]; simp
  ·exact hn'
 refine ⟨h1, h2, ?_, hbt, φ, Lf, ⟨hl'.ok.size0, hl'.ok.io0, hl'.ok.fr, hl'.ok.keep0, fun n hn' => hl'.ok.own0 n (hne n hn'), ?_, fun n hn' => hl'.ok.rh.nodup n (hne n hn'), fun n hn' => hl'.ok.rh.blk n (hne n hn'), fun n m hn' hm => hl'.ok.rh.dis n m (hne n hn') (hne m hm), ?_⟩, hl'.tm, hl'.φ0, hl'.ten⟩
 ·intro n row hr
  rw [hlk] at hr
  split at hr
  ·rename_i he
   simp only [Option.some.injEq] at hr
   subst hr he
   exact ⟨(hb n _ hl).1, hbn⟩
  ·exact hb n row hr
 ·intro n row hr
  rw [hlk] at hr
  split at hr
  ·rename_i he
   simp only [Option.some.injEq] at hr
   subst hr he
   have := hl'.ok.rh.row n _ hl
   unfold RowAt RowSp at this ⊢
   cases hq : (B.env w φ).φ n with
   | dead => rw [hq] at this; exact this.elim
   | nilp =>
    rw [hq] at this
    simp only at this
    obtain ⟨h3, h4⟩ := this
    rw [h3] at hn
    simp only [nilRs] at hn
    exact ⟨hn, h4⟩
   | «at» p =>
    rw [hq] at this
    obtain ⟨h3, h4, Lr, h5, h6⟩ := this
    exact ⟨h3, by rw [nilRs_length hn]; exact h4, Lr, nilRs_ok hn h5, h6⟩
  ·exact hl'.ok.rh.row n row hr
 ·intro n hn'
  rw [hlk] at hn'
  split at hn'
  ·simp at hn'
  ·exact hl'.ok.rh.dead n hn'
theorem Sub.nilLast (nm : Nat) {t : List (Nat × AV)} {h : Heap} {nx sz : Nat} {front : List (List AV)} {r r' : List AV} (hl : look h nm = some (sz, front ++ [r])) (hn : nilL r r') (hbn : bndr (· < nx) (front ++ [r'])) : Sub (.mk t h nx) (.mk t (put h nm (sz, front ++ [r'])) nx) :=
 Sub.nilRow nm hl (nilRs_app (nilRs_refl front) ((qDe r r' [] []).2 ⟨hn, (nilRs_nil).2 trivial⟩)) hbn
end Go.Sep
