/- The law FnExactFoldProg returns true for all arguments, and its arguments read as before. No condition. -/
import Derived.Test.YtoijhndfkfliiaaRows
import Derived.Test.YtoijhndfkfliiaaShutFnExactFoldProg
import Derived.Test.YtoijhndfkfliiaaConI
import Derived.Test.YtoijhndfkfliiaaRead
import Derived.WalkKit
import Derived.ProofKit
import Derived.OpenShut
import Derived.ShutString
import Derived.ChangeOld
import Derived.Below
import Derived.SizedLaws
namespace Go.Proofs.Ytoijhndfkfliiaa.fnExactFoldProg
open Go.ChangeShapes Go.WideShapes Go.ChangeAt Go.RowKit
open Go.ChangeMaps (open_string shut_string)
set_option linter.unusedVariables false
set_option linter.unusedSimpArgs false
theorem own : ownKnob Try.prog.godebug = none := by kernel_rfl
theorem laidOut : laidOutB Try.prog = true := by kernel_rfl
set_option maxRecDepth 100000 in
theorem lifted (os : Os) (started : os.Started) (H : Type) (enc : TypeId × Value → H) :
    ReturnsInHanded {} Try.checked os 14 .any (Rows.fnExactFoldProgSpec.pre6 enc Try.prog Try.f14 Rows.fnExactFoldProgRow.domain false) (Rows.fnExactFoldProgSpec.post enc Try.prog Try.f14 false true false false) := by
  refine returnsInHanded_of_change_sized (C := Try.checked) own started (by kernel_rfl) Try.func14
    (ChangeSpec.witness6 (enc := enc) (C := Try.checked) false ⟨#[], #[.agg #[.slice none 0 0, .slice none 0 0]], []⟩ 8 (by kernel_rfl) (by kernel_rfl) (by kernel_rfl) (by kernel_rfl)) ?_
  intro W base args ds gs before hval0 hW hcnd hsz0 _
  have hsz : (DataW.weightsEach Try.prog (Try.f14.params.toList ++ Rows.fnExactFoldProgSpec.plain.varTypes Try.prog) (ds ++ gs)).all (· ≤ reachBytes) = true := hsz0
  have hval : ∀ (j : Nat) t v, Try.f14.params[j]? = some t → args[j]? = some v → Value.okWide Try.prog W .any base t v := hval0
  have hW' := hW
  obtain ⟨p, q, hA0, hV, rfl, hfz, hnd⟩ := hW
  have hA : DataW.TrodAll enc Try.prog W 0 (fun _ => true) true Try.f14.params.toList args.toList ds p := hA0
  rw [Try.params14] at hA hval hsz
  obtain ⟨v0, vs0, d0, ds0, p0, q0, hargs, rfl, rfl, h0, r0⟩ := trodAll_cons hA
  obtain ⟨rfl, rfl, rfl⟩ := trodAll_nil r0
  obtain rfl : args = #[v0] := by cases args; simp_all
  obtain ⟨rfl, rfl⟩ := trodVars_none hV
  obtain ⟨_, rfl, _⟩ := okWide_struct Try.underlying25 (hval 0 25 v0 rfl rfl)
  have k0 := h0
  have lt0 : ∀ x ∈ p0, x.block < W.heap.size := by obtain ⟨m, hm⟩ := k0; exact DataW.trod_lt m _ _ _ hm
  obtain ⟨x0, q0', s0⟩ := (Go.Sep.Reading.map (d := (Go.Sep.progC .bw)) (R := fun p : Go.Sep.Prog => p.caps.length < 2 ^ 63 ∧ p.bods.length < 2 ^ 63 ∧ ∀ b ∈ p.bods, b.length < 2 ^ 63) (Go.Sep.read_st Try.underlying25 (by kernel_rfl) (Go.Sep.read_fs rfl (Go.Sep.read_sl Try.underlying22 (by kernel_rfl) (by decide) (Go.Sep.read_int Try.underlying3 (by kernel_rfl))) (Go.Sep.read_fs rfl (Go.Sep.read_sl Try.underlying23 (by kernel_rfl) (by decide) (Go.Sep.read_sl Try.underlying191 (by kernel_rfl) (by decide) (Go.Sep.Reading.map (d := Go.Sep.insC) (R := fun _ => True) (Go.Sep.read_st Try.underlying265 (by kernel_rfl) (Go.Sep.read_fs rfl (Go.Sep.read_int Try.underlying3 (by kernel_rfl)) (Go.Sep.read_fs rfl (Go.Sep.read_int Try.underlying3 (by kernel_rfl)) (Go.Sep.read_fs rfl (Go.Sep.read_int Try.underlying3 (by kernel_rfl)) (Go.Sep.read_fs rfl (Go.Sep.read_int Try.underlying3 (by kernel_rfl)) (Go.Sep.read_fs rfl (Go.Sep.read_int Try.underlying3 (by kernel_rfl)) (Go.Sep.read_fs0 5))))))) (fun x => (⟨x.1, x.2.1, x.2.2.1, x.2.2.2.1, x.2.2.2.2.1⟩ : Go.Sep.Ins)) (fun _ => ⟨rfl, rfl⟩) (fun _ => rfl) (fun _ _ => trivial)))) (Go.Sep.read_fs0 2)))) (fun x => (⟨x.1, x.2.1⟩ : Go.Sep.Prog)) (fun _ => ⟨rfl, rfl⟩) (fun _ => rfl) (fun x q => ⟨q.1.1, q.2.1.1, fun b hb => (q.2.1.2 b hb).1⟩)).agg h0
  have hc := (Go.Sep.exactFoldProg_ok x0 q0').2 (Go.Sep.entry Go.Sep.num W) (fun _ => []) _ rfl rfl (Go.Sep.entry_ok _ _) (Go.Sep.RVs_one s0 Go.Sep.RVs_zero)
  refine Calls.mono hc fun e W' he => ?_
  obtain ⟨he, bel⟩ : e = .returned (.bool true) ∧ Below W.heap.size W W' := by
    cases e with
    | returned v => obtain ⟨h1, h2⟩ := Go.Sep.below_of_post he; exact ⟨by rw [h1], h2⟩
    | panicked c => exact he.elim
    | outgrown => exact he.elim
  subst he
  exact ⟨_, rfl, _, _, _, [], _, [], hW', trodAll_mk1 (shut_bool Try.underlying4 _), (trodAll_cons_mk (Below.trod laidOut (by kernel_rfl) (of_decide_eq_true (by kernel_rfl)) k0 bel lt0) trodAll_mk0), rfl, bel.frame _, fun h => by cases h⟩
set_option maxRecDepth 100000 in
theorem closed : joinedFacts Try.prog 14 Try.f14 Rows.fnExactFoldProgSpec Rows.fnExactFoldProgRow = true := by
  unfold joinedFacts
  rw [x0, x1, x2, x3, x4, x5, x6, x7, x8, x9, x10, x11, x12, x13, x14, x15, x16, x17, x18, x19, x20, x21, x22, x23, x24, x25, x26, x27, x29, x30, x31]
  kernel_rfl
theorem named : Try.prog.funcNamed Rows.fnExactFoldProgRow.func = some 14 := by kernel_rfl
theorem inst : Try.f14.isInstance Try.prog Rows.fnExactFoldProgRow.origin Rows.fnExactFoldProgRow.targs := of_decide_eq_true (by kernel_rfl)
theorem over : Rows.fnExactFoldProgRow.holds Try.pinned (OpenSpec.ofChange Rows.fnExactFoldProgSpec) :=
  OpenClaim.holds_of_wide 14 Try.f14 rfl rfl rfl rfl rfl rfl rfl ⟨rfl, rfl, rfl, rfl, rfl⟩ rfl rfl rfl rfl rfl named Try.func14 closed
    inst (by unfold Func.isWrapper; first | (rw [if_pos (by decide +kernel)]; kernel_rfl) | (rw [if_neg (by decide +kernel)]; exact ⟨rfl, rfl⟩))
    (fun os started H enc _ => lifted os started H enc)
theorem proved : Rows.FnExactFoldProgSaid := over
end Go.Proofs.Ytoijhndfkfliiaa.fnExactFoldProg
namespace Go.Proofs.Ytoijhndfkfliiaa
/-- The row, under a short name, for the claim. -/
theorem fnExactFoldProg_holds : Rows.FnExactFoldProgSaid := fnExactFoldProg.proved
end Go.Proofs.Ytoijhndfkfliiaa
