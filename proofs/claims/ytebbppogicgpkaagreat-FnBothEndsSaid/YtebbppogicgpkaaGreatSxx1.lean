/- Contracts of functions. -/
import Derived.Test.YtebbppogicgpkaaGreatSxx37
namespace Go.Sep
set_option maxHeartbeats 16000000
open Go.Proofs
set_option linter.unusedSimpArgs false
set_option linter.unusedVariables false
set_option maxRecDepth 100000
attribute [local go_sem] fV vG qRj qRl qEb qKa qRm qK8 qRk qKe qEa qKf qK9 yC qDk pO Arg.ev wL dE qSq if_false if_true zY put del dL qBh Option.map_some Option.bind_some qY Int.toNat_natCast qRn qK7 qKb dW true_and and_true qA4 qA2 qA3 lM iO Bool.false_eq_true fH cellsOf vC List.isEmpty_nil List.isEmpty_cons fresh List.map_nil List.map_cons List.cons_append List.nil_append dI List.take_zero List.drop_zero List.take_succ_cons List.getD_cons_zero List.length_cons List.length_nil List.drop_succ_cons List.drop_nil List.append_nil List.all_cons List.all_nil jP Bool.and_self Nat.zero_add qKc qKd qK6 qE9 qE8 qE6 qE7 qKg qRi nG qAj pZ qF7 qFe qEq vX vZ eC qEp cZ jG apart List.filter_nil List.filter_cons Option.isSome_some Option.isSome_none List.contains_nil List.contains_cons List.forall_mem_cons List.mem_cons List.not_mem_nil false_implies implies_true forall_const forall_eq_or_imp forall_eq or_false beq_self_eq_true Bool.or_false Bool.false_or Bool.true_or Bool.or_true Bool.not_true Bool.not_false xv xo xg xr xi xz List.set_set nA lG pX pY tF mC qE5 sJ mQ eqC cS lC List.replicate_zero decide_true decide_false pU qA0 List.replicate_succ Int.toNat_zero Int.toNat_one eq_self Bool.and_true Bool.true_and Bool.and_false Bool.false_and List.set_cons_zero List.set_cons_succ List.getD_cons_succ rnm ixm jQ xE yJ vN cond_true cond_false eR eQ fP
attribute [local simp] iI bwT bwC bwL gA eQ wL Arg.ev gP tJ rD qEn aX sA lZ yT okV okL nb nbs nbr bR qY dL bnd vK jT jQ xE ixm rnm apart cZ vX vZ fresh yJ vN dJ qEo dO iT vU del tD aK eR fP shp okB pM pV
theorem qKx (l:List Int) (i:Nat) (h:i<l.length):(bys l).getD i []=[.int .u8 (l.getD i 0)]:=by simp [bys,List.getD_eq_getElem?_getD,h]
theorem qFq (l:List Int) (n:Int):wN l++[[.int .i64 n]]=wN (l++[n]):=by simp [wN]
theorem fK {p:wM} {l:List vD} (h:(wQ p l).2.2=true):vF p=true∧bJ p.caps=true∧wP (wQ p l).2.1=true∧(launch p).2=true∧wQ p l=(vH p (launch p).1 l,aV (launch p).1 l,true)∧(wQ p l).1.length≤l.length:=by
 unfold wQ at h⊢
 split at h
 ·rename_i hc
  rw [if_pos hc]
  simp only [Bool.and_eq_true,decide_eq_true_eq] at hc
  obtain ⟨h1,h2,h3,h4⟩:=cP hc.1
  exact ⟨h1,h2,qDl l h4,hc.1,rfl,mN p _ l⟩
 ·exact absurd h (by simp)
end Go.Sep
