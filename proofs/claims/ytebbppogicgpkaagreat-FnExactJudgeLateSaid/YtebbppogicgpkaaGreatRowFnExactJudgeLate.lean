/- The law FnExactJudgeLate returns true and never panics, for all arguments. No condition. -/
import Derived.Test.YtebbppogicgpkaaGreatRows
import Derived.Test.YtebbppogicgpkaaGreatShutFnExactJudgeLate
import Derived.Test.YtebbppogicgpkaaGreatSxx42
import Derived.Test.YtebbppogicgpkaaGreatSxx50
import Derived.Test.YtebbppogicgpkaaGreatSzRead
import Derived.WalkKit
import Derived.ProofKit
import Derived.OpenShut
import Derived.ShutString
import Derived.ChangeOld
import Derived.Below
import Derived.SizedLaws
namespace Go.Proofs.YtebbppogicgpkaaGreat.fnExactJudgeLate
open Go.ChangeShapes Go.WideShapes Go.ChangeAt Go.RowKit
open Go.ChangeMaps (open_string shut_string)
set_option linter.unusedVariables false
set_option linter.unusedSimpArgs false
theorem own : ownKnob Tryz.prog.godebug = none := by kernel_rfl
theorem laidOut : laidOutB Tryz.prog = true := by kernel_rfl
set_option maxRecDepth 100000 in
theorem lifted (os : Os) (started : os.Started) (H : Type) (enc : TypeId × Value → H) :
  ReturnsInHanded {} Tryz.checked os 9 .any (Rows.fnExactJudgeLateSpec.pre6 enc Tryz.prog Tryz.f9 Rows.fnExactJudgeLateRow.domain false) (Rows.fnExactJudgeLateSpec.post enc Tryz.prog Tryz.f9 false true false false) := by
 refine returnsInHanded_of_change_sized (C := Tryz.checked) own started (by kernel_rfl) Tryz.func9
  (ChangeSpec.witness6 (enc := enc) (C := Tryz.checked) false ⟨#[], #[.agg #[.slice none 0 0, .slice none 0 0], .slice none 0 0], []⟩ 8 (by kernel_rfl) (by kernel_rfl) (by kernel_rfl) (by kernel_rfl)) ?_
 intro W base args ds gs before hval0 hW hcnd hsz0 _
 have hsz : (DataW.weightsEach Tryz.prog (Tryz.f9.params.toList ++ Rows.fnExactJudgeLateSpec.plain.varTypes Tryz.prog) (ds ++ gs)).all (· ≤ reachBytes) = true := hsz0
 have hval : ∀ (j : Nat) t v, Tryz.f9.params[j]? = some t → args[j]? = some v → Value.okWide Tryz.prog W .any base t v := hval0
 have hW' := hW
 obtain ⟨p, q, hA0, hV, rfl, hfz, hnd⟩ := hW
 have hA : DataW.TrodAll enc Tryz.prog W 0 (fun _ => true) true Tryz.f9.params.toList args.toList ds p := hA0
 rw [Tryz.params9] at hA hval hsz
 obtain ⟨v0, vs0, d0, ds0, p0, q0, hargs, rfl, rfl, h0, r0⟩ := trodAll_cons hA
 obtain ⟨v1, vs1, d1, ds1, p1, q1, rfl, rfl, rfl, h1, r1⟩ := trodAll_cons r0
 obtain ⟨rfl, rfl, rfl⟩ := trodAll_nil r1
 obtain rfl : args = #[v0, v1] := by cases args; simp_all
 obtain ⟨rfl, rfl⟩ := trodVars_none hV
 obtain ⟨_, rfl, _⟩ := okWide_struct Tryz.underlying76 (hval 0 76 v0 rfl rfl)
 have k0 := h0
 have lt0 : ∀ x ∈ p0, x.block < W.heap.size := by obtain ⟨m, hm⟩ := k0; exact DataW.trod_lt m _ _ _ hm
 obtain ⟨x0, q0', s0⟩ := (Go.Sep.cV.map (d := (Go.Sep.jF .bw)) (R := fun p : Go.Sep.wM => p.caps.length < 2 ^ 63 ∧ p.bods.length < 2 ^ 63 ∧ ∀ b ∈ p.bods, b.length < 2 ^ 63) (Go.Sep.wC1 Tryz.underlying76 (by kernel_rfl) (Go.Sep.wC3 rfl (Go.Sep.wC2 Tryz.underlying24 (by kernel_rfl) (by decide) (Go.Sep.wBo Tryz.underlying3 (by kernel_rfl))) (Go.Sep.wC3 rfl (Go.Sep.wC2 Tryz.underlying74 (by kernel_rfl) (by decide) (Go.Sep.wC2 Tryz.underlying182 (by kernel_rfl) (by decide) (Go.Sep.cV.map (d := Go.Sep.bU) (R := fun _ => True) (Go.Sep.wC1 Tryz.underlying212 (by kernel_rfl) (Go.Sep.wC3 rfl (Go.Sep.wBo Tryz.underlying3 (by kernel_rfl)) (Go.Sep.wC3 rfl (Go.Sep.wBo Tryz.underlying3 (by kernel_rfl)) (Go.Sep.wC3 rfl (Go.Sep.wBo Tryz.underlying3 (by kernel_rfl)) (Go.Sep.wC3 rfl (Go.Sep.wBo Tryz.underlying3 (by kernel_rfl)) (Go.Sep.wC3 rfl (Go.Sep.wBo Tryz.underlying3 (by kernel_rfl)) (Go.Sep.wBp 5))))))) (fun x => (⟨x.1, x.2.1, x.2.2.1, x.2.2.2.1, x.2.2.2.2.1⟩ : Go.Sep.Ins)) (fun _ => ⟨rfl, rfl⟩) (fun _ => rfl) (fun _ _ => trivial)))) (Go.Sep.wBp 2)))) (fun x => (⟨x.1, x.2.1⟩ : Go.Sep.wM)) (fun _ => ⟨rfl, rfl⟩) (fun _ => rfl) (fun x q => ⟨q.1.1, q.2.1.1, fun b hb => (q.2.1.2 b hb).1⟩)).agg h0
 obtain ⟨_, _, _, rfl⟩ := okWide_slice Tryz.underlying77 (hval 1 77 v1 rfl rfl)
 have k1 := h1
 have lt1 : ∀ x ∈ p1, x.block < W.heap.size := by obtain ⟨m, hm⟩ := k1; exact DataW.trod_lt m _ _ _ hm
 obtain ⟨x1, q1', s1⟩ := (Go.Sep.wC2 Tryz.underlying77 (by kernel_rfl) (by decide) (Go.Sep.cV.map (d := Go.Sep.cY) (R := fun x : Go.Sep.vD => -(2 ^ 63) ≤ x.late ∧ x.late < 2 ^ 63) (Go.Sep.wC1 Tryz.underlying143 (by kernel_rfl) (Go.Sep.wC3 rfl (Go.Sep.wBo Tryz.underlying3 (by kernel_rfl)) (Go.Sep.wC3 rfl (Go.Sep.wBo Tryz.underlying3 (by kernel_rfl)) (Go.Sep.wBp 2)))) (fun x => (⟨x.1, x.2.1⟩ : Go.Sep.vD)) (fun _ => ⟨rfl, rfl⟩) (fun _ => rfl) (fun x q => q.2.1))).one rfl h1
 have hc := (Go.Sep.qVb x0 x1 q0' q1').2 (Go.Sep.qK4 Go.Sep.num W) (fun _ => []) _ rfl rfl (Go.Sep.wBs _ _) (Go.Sep.wC4 s0 (Go.Sep.wC4 s1 Go.Sep.wBx))
 refine Calls.mono hc fun e W' he => ?_
 obtain ⟨he, bel⟩ : e = .returned (.bool true) ∧ Below W.heap.size W W' := by
  cases e with
  | returned v => obtain ⟨h1, h2⟩ := Go.Sep.qZw he; exact ⟨by rw [h1], h2⟩
  | panicked c => exact he.elim
  | outgrown => exact he.elim
 subst he
 exact ⟨_, rfl, _, _, _, [], _, [], hW', trodAll_mk1 (shut_bool Tryz.underlying4 _), (trodAll_cons_mk (Below.trod laidOut (by kernel_rfl) (of_decide_eq_true (by kernel_rfl)) k0 bel lt0) (trodAll_cons_mk (Below.trod laidOut (by kernel_rfl) (of_decide_eq_true (by kernel_rfl)) k1 bel lt1) trodAll_mk0)), rfl, bel.frame _, fun h => by cases h⟩
set_option maxRecDepth 100000 in
theorem closed : joinedFacts Tryz.prog 9 Tryz.f9 Rows.fnExactJudgeLateSpec Rows.fnExactJudgeLateRow = true := by
 unfold joinedFacts
 rw [x0, x1, x2, x3, x4, x5, x6, x7, x8, x9, x10, x11, x12, x13, x14, x15, x16, x17, x18, x19, x20, x21, x22, x23, x24, x25, x26, x27, x29, x30, x31]
 kernel_rfl
theorem named : Tryz.prog.funcNamed Rows.fnExactJudgeLateRow.func = some 9 := by kernel_rfl
theorem inst : Tryz.f9.isInstance Tryz.prog Rows.fnExactJudgeLateRow.origin Rows.fnExactJudgeLateRow.targs := of_decide_eq_true (by kernel_rfl)
theorem over : Rows.fnExactJudgeLateRow.holds Tryz.pinned (OpenSpec.ofChange Rows.fnExactJudgeLateSpec) :=
 OpenClaim.holds_of_wide 9 Tryz.f9 rfl rfl rfl rfl rfl rfl rfl ⟨rfl, rfl, rfl, rfl, rfl⟩ rfl rfl rfl rfl rfl named Tryz.func9 closed
  inst (by unfold Func.isWrapper; first | (rw [if_pos (by decide +kernel)]; kernel_rfl) | (rw [if_neg (by decide +kernel)]; exact ⟨rfl, rfl⟩))
  (fun os started H enc _ => lifted os started H enc)
theorem proved : Rows.FnExactJudgeLateSaid := over
end Go.Proofs.YtebbppogicgpkaaGreat.fnExactJudgeLate
namespace Go.Proofs.YtebbppogicgpkaaGreat
theorem fnExactJudgeLate_holds : Rows.FnExactJudgeLateSaid := fnExactJudgeLate.proved
end Go.Proofs.YtebbppogicgpkaaGreat
