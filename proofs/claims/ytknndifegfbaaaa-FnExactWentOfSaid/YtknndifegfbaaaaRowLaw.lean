/- The law FnExactWentOf returns true for all arguments, and its arguments read as before. No condition. -/
import Derived.Test.YtknndifegfbaaaaRows
import Derived.Test.YtknndifegfbaaaaCon12
import Derived.Test.YtknndifegfbaaaaRead
import Derived.WalkKit
import Derived.ProofKit
import Derived.OpenShut
import Derived.ShutString
import Derived.ChangeOld
import Derived.Below
import Derived.SizedLaws
namespace Go.Proofs.Ytknndifegfbaaaa.fnExactWentOf
open Go.ChangeShapes Go.WideShapes Go.ChangeAt Go.RowKit
open Go.ChangeMaps (open_string shut_string)
set_option linter.unusedVariables false
set_option linter.unusedSimpArgs false
theorem own : ownKnob Try.prog.godebug = none := by kernel_rfl
theorem laidOut : laidOutB Try.prog = true := by kernel_rfl
set_option maxRecDepth 100000 in
theorem lifted (os : Os) (started : os.Started) (H : Type) (enc : TypeId × Value → H) :
    ReturnsInHanded {} Try.checked os 6 .any (Rows.fnExactWentOfSpec.pre6 enc Try.prog Try.f6 Rows.fnExactWentOfRow.domain false) (Rows.fnExactWentOfSpec.post enc Try.prog Try.f6 false true false false) := by
  refine returnsInHanded_of_change_sized (C := Try.checked) own started (by kernel_rfl) Try.func6
    (ChangeSpec.witness6 (enc := enc) (C := Try.checked) false ⟨#[], #[.agg #[.slice none 0 0, .slice none 0 0], .slice none 0 0], []⟩ 8 (by kernel_rfl) (by kernel_rfl) (by kernel_rfl) (by kernel_rfl)) ?_
  intro W base args ds gs before hval0 hW hcnd hsz0 _
  have hsz : (DataW.weightsEach Try.prog (Try.f6.params.toList ++ Rows.fnExactWentOfSpec.plain.varTypes Try.prog) (ds ++ gs)).all (· ≤ reachBytes) = true := hsz0
  have hval : ∀ (j : Nat) t v, Try.f6.params[j]? = some t → args[j]? = some v → Value.okWide Try.prog W .any base t v := hval0
  have hW' := hW
  obtain ⟨p, q, hA0, hV, rfl, hfz, hnd⟩ := hW
  have hA : DataW.TrodAll enc Try.prog W 0 (fun _ => true) true Try.f6.params.toList args.toList ds p := hA0
  rw [Try.params6] at hA hval hsz
  obtain ⟨v0, vs0, d0, ds0, p0, q0, hargs, rfl, rfl, h0, r0⟩ := trodAll_cons hA
  obtain ⟨v1, vs1, d1, ds1, p1, q1, rfl, rfl, rfl, h1, r1⟩ := trodAll_cons r0
  obtain ⟨rfl, rfl, rfl⟩ := trodAll_nil r1
  obtain rfl : args = #[v0, v1] := by cases args; simp_all
  obtain ⟨rfl, rfl⟩ := trodVars_none hV
  obtain ⟨_, rfl, _⟩ := okWide_struct Try.underlying58 (hval 0 58 v0 rfl rfl)
  have k0 := h0
  have lt0 : ∀ x ∈ p0, x.block < W.heap.size := by obtain ⟨m, hm⟩ := k0; exact DataW.trod_lt m _ _ _ hm
  obtain ⟨x0, q0', s0⟩ := (Go.Sep.Reading.map (d := (Go.Sep.progC .bw)) (R := fun p : Go.Sep.Prog => p.caps.length < 2 ^ 63 ∧ p.bods.length < 2 ^ 63 ∧ ∀ b ∈ p.bods, b.length < 2 ^ 63) (Go.Sep.read_st Try.underlying58 (by kernel_rfl) (Go.Sep.read_fs rfl (Go.Sep.read_sl Try.underlying22 (by kernel_rfl) (by decide) (Go.Sep.read_int Try.underlying3 (by kernel_rfl))) (Go.Sep.read_fs rfl (Go.Sep.read_sl Try.underlying56 (by kernel_rfl) (by decide) (Go.Sep.read_sl Try.underlying110 (by kernel_rfl) (by decide) (Go.Sep.Reading.map (d := Go.Sep.insC) (R := fun _ => True) (Go.Sep.read_st Try.underlying126 (by kernel_rfl) (Go.Sep.read_fs rfl (Go.Sep.read_int Try.underlying3 (by kernel_rfl)) (Go.Sep.read_fs rfl (Go.Sep.read_int Try.underlying3 (by kernel_rfl)) (Go.Sep.read_fs rfl (Go.Sep.read_int Try.underlying3 (by kernel_rfl)) (Go.Sep.read_fs rfl (Go.Sep.read_int Try.underlying3 (by kernel_rfl)) (Go.Sep.read_fs rfl (Go.Sep.read_int Try.underlying3 (by kernel_rfl)) (Go.Sep.read_fs0 5))))))) (fun x => (⟨x.1, x.2.1, x.2.2.1, x.2.2.2.1, x.2.2.2.2.1⟩ : Go.Sep.Ins)) (fun _ => ⟨rfl, rfl⟩) (fun _ => rfl) (fun _ _ => trivial)))) (Go.Sep.read_fs0 2)))) (fun x => (⟨x.1, x.2.1⟩ : Go.Sep.Prog)) (fun _ => ⟨rfl, rfl⟩) (fun _ => rfl) (fun x q => ⟨q.1.1, q.2.1.1, fun b hb => (q.2.1.2 b hb).1⟩)).agg h0
  obtain ⟨_, _, _, rfl⟩ := okWide_slice Try.underlying22 (hval 1 22 v1 rfl rfl)
  have k1 := h1
  have lt1 : ∀ x ∈ p1, x.block < W.heap.size := by obtain ⟨m, hm⟩ := k1; exact DataW.trod_lt m _ _ _ hm
  obtain ⟨x1, q1', s1⟩ := (Go.Sep.read_sl Try.underlying22 (by kernel_rfl) (by decide) (Go.Sep.read_int Try.underlying3 (by kernel_rfl))).one rfl h1
  have hc := (Go.Sep.exactWentOf_ok x0 x1 q0'.1 q0'.2.1 q0'.2.2).2 (Go.Sep.entry Go.Sep.num W) (fun _ => []) _ rfl rfl (Go.Sep.entry_ok _ _) (Go.Sep.RVs_one s0 (Go.Sep.RVs_one s1 Go.Sep.RVs_zero))
  refine Calls.mono hc fun e W' he => ?_
  obtain ⟨he, bel⟩ : e = .returned (.bool true) ∧ Below W.heap.size W W' := by
    cases e with
    | returned v => obtain ⟨h1, h2⟩ := Go.Sep.below_of_post he; exact ⟨by rw [h1], h2⟩
    | panicked c => exact he.elim
    | outgrown => exact he.elim
  subst he
  exact ⟨_, rfl, _, _, _, [], _, [], hW', trodAll_mk1 (shut_bool Try.underlying4 _), (trodAll_cons_mk (Below.trod laidOut (by kernel_rfl) (of_decide_eq_true (by kernel_rfl)) k0 bel lt0) (trodAll_cons_mk (Below.trod laidOut (by kernel_rfl) (of_decide_eq_true (by kernel_rfl)) k1 bel lt1) trodAll_mk0)), rfl, bel.frame _, fun h => by cases h⟩
theorem over : Rows.fnExactWentOfRow.holds Try.pinned (OpenSpec.ofChange Rows.fnExactWentOfSpec) :=
  OpenClaim.holds_of_wide 6 Try.f6 rfl rfl rfl rfl rfl rfl rfl ⟨rfl, rfl, rfl, rfl, rfl⟩ rfl rfl rfl rfl rfl (by kernel_rfl) Try.func6 (by kernel_rfl)
    (of_decide_eq_true (by kernel_rfl)) (by unfold Func.isWrapper; first | (rw [if_pos (by decide +kernel)]; kernel_rfl) | (rw [if_neg (by decide +kernel)]; exact ⟨rfl, rfl⟩))
    (fun os started H enc _ => lifted os started H enc)
theorem proved : Rows.FnExactWentOfSaid := over
end Go.Proofs.Ytknndifegfbaaaa.fnExactWentOf
namespace Go.Proofs.Ytknndifegfbaaaa
/-- The row, under a short name, for the claim. -/
theorem fnExactWentOf_holds : Rows.FnExactWentOfSaid := fnExactWentOf.proved
end Go.Proofs.Ytknndifegfbaaaa
