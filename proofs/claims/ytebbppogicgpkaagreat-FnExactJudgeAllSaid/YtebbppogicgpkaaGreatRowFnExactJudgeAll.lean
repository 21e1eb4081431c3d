/- The law FnExactJudgeAll returns true and never panics, for all arguments. No condition. -/
import Derived.Test.YtebbppogicgpkaaGreatRows
import Derived.Test.YtebbppogicgpkaaGreatShutFnExactJudgeAll
import Derived.Test.YtebbppogicgpkaaGreatJxx37
import Derived.Test.YtebbppogicgpkaaGreatJxx39
import Derived.Test.YtebbppogicgpkaaGreatJzRead
import Derived.WalkKit
import Derived.ProofKit
import Derived.OpenShut
import Derived.ShutString
import Derived.ChangeOld
import Derived.Below
import Derived.SizedLaws
namespace Go.Sep
open Bool renaming and_eq_true → qWu
open List renaming all_cons → qX6, drop_drop → qXh, flatMap_cons → qXj, getD_eq_getElem?_getD → qWw, getElem?_eq_getElem → qYd, getElem?_eq_none → qXf, getElem_mem → qXo, getElem_of_mem → qYe, length_set → qYb, map_append → qY7, map_cons → qWr, map_map → qY9, mem_append → qXu, mem_cons_of_mem → qXp, mem_map → qYa, mem_or_eq_of_mem_set → qYc, mem_singleton → qXb, nodup_cons → qXg, nodup_nil → qY6, replicate → qWo, take_append_drop → qX0
open Nat renaming le_refl → qWt, le_trans → qY8, lt_of_lt_of_le → qXv
open Go.RowKit
open Go.WideShapes
variable {P:Program} {num:Nat→Nat} {t:TypeId}
theorem nF.one {α:Type} {c:α→List AV} {Q:α→Prop} {H:Type} {enc:TypeId×Value→H} {W:World} {held:Bool} {v:Value} {d:DataW H} {p:List MemPlace} (h:nF P num t 1 c Q) (hv:v.cells = #[v]) (ht:DataW.Trod enc P W 0 (fun _=>true) held t v d p) :
  ∃x,Q x∧RV (qQb num W) ((c x).getD 0 .any) v []:=by
 obtain ⟨fuel,hf⟩:=ht
 obtain ⟨x,q,r⟩:=h.2.2 enc W held fuel _ _ hf
 rw [hv] at r
 have hl:=(h.2.1 x).1
 match hcx:c x,hl with
 | [a],_ =>
  rw [hcx] at r
  simp only [RVs] at r
  obtain ⟨v',vs',L1,L2,h1,h2,h3,h4⟩:=r
  have hL1:L1=[]:=(yJ h4).1
  subst hL1
  simp only [List.cons.injEq] at h1
  rw [h1.1]
  exact ⟨x,q,by simpa [hcx] using h2⟩
theorem nF.agg {n:Nat} {α:Type} {c:α→List AV} {Q:α→Prop} {H:Type} {enc:TypeId×Value→H} {W:World} {held:Bool} {vs:Array Value} {d:DataW H} {p:List MemPlace} (h:nF P num t n c Q) (ht:DataW.Trod enc P W 0 (fun _=>true) held t (.agg vs) d p) :
  ∃x,Q x∧RV (qQb num W) (.agg (c x)) (.agg vs) []:=by
 obtain ⟨fuel,hf⟩:=ht
 obtain ⟨x,q,r⟩:=h.2.2 enc W held fuel _ _ hf
 refine ⟨x,q,?_⟩
 simp only [RV]
 exact ⟨vs.toList,by simp,by simpa [Value.cells] using r⟩
end Go.Sep
namespace Go.Proofs.YtebbppogicgpkaaGreat.fnExactJudgeAll
open Go.ChangeShapes Go.WideShapes Go.ChangeAt Go.RowKit
open Go.ChangeMaps (open_string shut_string)
set_option linter.unusedVariables false
set_option linter.unusedSimpArgs false
theorem own : ownKnob Tryz.prog.godebug = none := by kernel_rfl
theorem laidOut : laidOutB Tryz.prog = true := by kernel_rfl
set_option maxRecDepth 100000 in
theorem lifted (os : Os) (started : os.Started) (H : Type) (enc : TypeId × Value → H) :
  ReturnsInHanded {} Tryz.checked os 13 .any (Rows.fnExactJudgeAllSpec.pre6 enc Tryz.prog Tryz.f13 Rows.fnExactJudgeAllRow.domain false) (Rows.fnExactJudgeAllSpec.post enc Tryz.prog Tryz.f13 false true false false) := by
 refine returnsInHanded_of_change_sized (C := Tryz.checked) own started (by kernel_rfl) Tryz.func13
  (ChangeSpec.witness6 (enc := enc) (C := Tryz.checked) false ⟨#[], #[.agg #[.slice none 0 0, .slice none 0 0], .slice none 0 0], []⟩ 8 (by kernel_rfl) (by kernel_rfl) (by kernel_rfl) (by kernel_rfl)) ?_
 intro W base args ds gs before hval0 hW hcnd hsz0 _
 have hsz : (DataW.weightsEach Tryz.prog (Tryz.f13.params.toList ++ Rows.fnExactJudgeAllSpec.plain.varTypes Tryz.prog) (ds ++ gs)).all (· ≤ reachBytes) = true := hsz0
 have hval : ∀ (j : Nat) t v, Tryz.f13.params[j]? = some t → args[j]? = some v → Value.okWide Tryz.prog W .any base t v := hval0
 have hW' := hW
 obtain ⟨p, q, hA0, hV, rfl, hfz, hnd⟩ := hW
 have hA : DataW.TrodAll enc Tryz.prog W 0 (fun _ => true) true Tryz.f13.params.toList args.toList ds p := hA0
 rw [Tryz.params13] at hA hval hsz
 obtain ⟨v0, vs0, d0, ds0, p0, q0, hargs, rfl, rfl, h0, r0⟩ := trodAll_cons hA
 obtain ⟨v1, vs1, d1, ds1, p1, q1, rfl, rfl, rfl, h1, r1⟩ := trodAll_cons r0
 obtain ⟨rfl, rfl, rfl⟩ := trodAll_nil r1
 obtain rfl : args = #[v0, v1] := by cases args; simp_all
 obtain ⟨rfl, rfl⟩ := trodVars_none hV
 obtain ⟨_, rfl, _⟩ := okWide_struct Tryz.underlying76 (hval 0 76 v0 rfl rfl)
 have k0 := h0
 have lt0 : ∀ x ∈ p0, x.block < W.heap.size := by obtain ⟨m, hm⟩ := k0; exact DataW.trod_lt m _ _ _ hm
 obtain ⟨x0, q0', s0⟩ := (Go.Sep.nF.map (d := (Go.Sep.yT .bw)) (R := fun p : Go.Sep.wU => p.caps.length < 2 ^ 63 ∧ p.bods.length < 2 ^ 63 ∧ ∀ b ∈ p.bods, b.length < 2 ^ 63) (Go.Sep.qWb Tryz.underlying76 (by kernel_rfl) (Go.Sep.qWd rfl (Go.Sep.qWc Tryz.underlying24 (by kernel_rfl) (by decide) (Go.Sep.qW1 Tryz.underlying3 (by kernel_rfl))) (Go.Sep.qWd rfl (Go.Sep.qWc Tryz.underlying74 (by kernel_rfl) (by decide) (Go.Sep.qWc Tryz.underlying182 (by kernel_rfl) (by decide) (Go.Sep.nF.map (d := Go.Sep.cJ) (R := fun _ => True) (Go.Sep.qWb Tryz.underlying212 (by kernel_rfl) (Go.Sep.qWd rfl (Go.Sep.qW1 Tryz.underlying3 (by kernel_rfl)) (Go.Sep.qWd rfl (Go.Sep.qW1 Tryz.underlying3 (by kernel_rfl)) (Go.Sep.qWd rfl (Go.Sep.qW1 Tryz.underlying3 (by kernel_rfl)) (Go.Sep.qWd rfl (Go.Sep.qW1 Tryz.underlying3 (by kernel_rfl)) (Go.Sep.qWd rfl (Go.Sep.qW1 Tryz.underlying3 (by kernel_rfl)) (Go.Sep.qW2 5))))))) (fun x => (⟨x.1, x.2.1, x.2.2.1, x.2.2.2.1, x.2.2.2.2.1⟩ : Go.Sep.Ins)) (fun _ => ⟨rfl, rfl⟩) (fun _ => rfl) (fun _ _ => trivial)))) (Go.Sep.qW2 2)))) (fun x => (⟨x.1, x.2.1⟩ : Go.Sep.wU)) (fun _ => ⟨rfl, rfl⟩) (fun _ => rfl) (fun x q => ⟨q.1.1, q.2.1.1, fun b hb => (q.2.1.2 b hb).1⟩)).agg h0
 obtain ⟨_, _, _, rfl⟩ := okWide_slice Tryz.underlying77 (hval 1 77 v1 rfl rfl)
 have k1 := h1
 have lt1 : ∀ x ∈ p1, x.block < W.heap.size := by obtain ⟨m, hm⟩ := k1; exact DataW.trod_lt m _ _ _ hm
 obtain ⟨x1, q1', s1⟩ := (Go.Sep.qWc Tryz.underlying77 (by kernel_rfl) (by decide) (Go.Sep.nF.map (d := Go.Sep.fG) (R := fun x : Go.Sep.uF => -(2 ^ 63) ≤ x.late ∧ x.late < 2 ^ 63) (Go.Sep.qWb Tryz.underlying143 (by kernel_rfl) (Go.Sep.qWd rfl (Go.Sep.qW1 Tryz.underlying3 (by kernel_rfl)) (Go.Sep.qWd rfl (Go.Sep.qW1 Tryz.underlying3 (by kernel_rfl)) (Go.Sep.qW2 2)))) (fun x => (⟨x.1, x.2.1⟩ : Go.Sep.uF)) (fun _ => ⟨rfl, rfl⟩) (fun _ => rfl) (fun x q => q.2.1))).one rfl h1
 have hc := (Go.Sep.qRx x0 x1 q0' q1').2 (Go.Sep.qQb Go.Sep.num W) (fun _ => []) _ rfl rfl (Go.Sep.qW3 _ _) (Go.Sep.qWe s0 (Go.Sep.qWe s1 Go.Sep.qW8))
 refine Calls.mono hc fun e W' he => ?_
 obtain ⟨he, bel⟩ : e = .returned (.bool true) ∧ Below W.heap.size W W' := by
  cases e with
  | returned v => obtain ⟨h1, h2⟩ := Go.Sep.qUd he; exact ⟨by rw [h1], h2⟩
  | panicked c => exact he.elim
  | outgrown => exact he.elim
 subst he
 exact ⟨_, rfl, _, _, _, [], _, [], hW', trodAll_mk1 (shut_bool Tryz.underlying4 _), (trodAll_cons_mk (Below.trod laidOut (by kernel_rfl) (of_decide_eq_true (by kernel_rfl)) k0 bel lt0) (trodAll_cons_mk (Below.trod laidOut (by kernel_rfl) (of_decide_eq_true (by kernel_rfl)) k1 bel lt1) trodAll_mk0)), rfl, bel.frame _, fun h => by cases h⟩
set_option maxRecDepth 100000 in
theorem closed : joinedFacts Tryz.prog 13 Tryz.f13 Rows.fnExactJudgeAllSpec Rows.fnExactJudgeAllRow = true := by
 unfold joinedFacts
 rw [x0, x1, x2, x3, x4, x5, x6, x7, x8, x9, x10, x11, x12, x13, x14, x15, x16, x17, x18, x19, x20, x21, x22, x23, x24, x25, x26, x27, x29, x30, x31]
 kernel_rfl
theorem named : Tryz.prog.funcNamed Rows.fnExactJudgeAllRow.func = some 13 := by kernel_rfl
theorem inst : Tryz.f13.isInstance Tryz.prog Rows.fnExactJudgeAllRow.origin Rows.fnExactJudgeAllRow.targs := of_decide_eq_true (by kernel_rfl)
theorem over : Rows.fnExactJudgeAllRow.holds Tryz.pinned (OpenSpec.ofChange Rows.fnExactJudgeAllSpec) :=
 OpenClaim.holds_of_wide 13 Tryz.f13 rfl rfl rfl rfl rfl rfl rfl ⟨rfl, rfl, rfl, rfl, rfl⟩ rfl rfl rfl rfl rfl named Tryz.func13 closed
  inst (by unfold Func.isWrapper; first | (rw [if_pos (by decide +kernel)]; kernel_rfl) | (rw [if_neg (by decide +kernel)]; exact ⟨rfl, rfl⟩))
  (fun os started H enc _ => lifted os started H enc)
theorem proved : Rows.FnExactJudgeAllSaid := over
end Go.Proofs.YtebbppogicgpkaaGreat.fnExactJudgeAll
namespace Go.Proofs.YtebbppogicgpkaaGreat
theorem fnExactJudgeAll_holds : Rows.FnExactJudgeAllSaid := fnExactJudgeAll.proved
end Go.Proofs.YtebbppogicgpkaaGreat
