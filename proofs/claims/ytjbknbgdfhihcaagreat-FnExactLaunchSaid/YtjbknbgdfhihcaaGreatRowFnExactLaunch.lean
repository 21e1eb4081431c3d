/- The law FnExactLaunch returns true for all arguments, and its arguments read as before. No condition. -/
import Derived.Test.YtjbknbgdfhihcaaGreatRows
import Derived.Test.YtjbknbgdfhihcaaGreatShutFnExactLaunch
import Derived.Test.YtjbknbgdfhihcaaGreatQa0
import Derived.Test.YtjbknbgdfhihcaaGreatQd0
import Derived.Test.YtjbknbgdfhihcaaGreatQe0
import Derived.Test.YtjbknbgdfhihcaaGreatQf0
import Derived.Test.YtjbknbgdfhihcaaGreatQh0
import Derived.Test.YtjbknbgdfhihcaaGreatQj0
import Derived.Test.YtjbknbgdfhihcaaGreatQK0
import Derived.Test.YtjbknbgdfhihcaaGreatQt0
import Derived.Test.YtjbknbgdfhihcaaGreatQv0
import Derived.Test.YtjbknbgdfhihcaaGreatQw0
import Derived.Test.YtjbknbgdfhihcaaGreatQy0
import Derived.Test.YtjbknbgdfhihcaaGreatQz0
import Derived.Test.YtjbknbgdfhihcaaGreatQA0
import Derived.Test.YtjbknbgdfhihcaaGreatQM0
import Derived.Test.YtjbknbgdfhihcaaGreatQN0
import Derived.Test.YtjbknbgdfhihcaaGreatQO0
import Derived.Test.YtjbknbgdfhihcaaGreatQP0
import Derived.Test.YtjbknbgdfhihcaaGreatQQ0
import Derived.Test.YtjbknbgdfhihcaaGreatQT0
import Derived.Test.YtjbknbgdfhihcaaGreatQV0
import Derived.Test.YtjbknbgdfhihcaaGreatQL0
import Derived.Test.YtjbknbgdfhihcaaGreatQa1
import Derived.Test.YtjbknbgdfhihcaaGreatQb1
import Derived.Test.YtjbknbgdfhihcaaGreatQc1
import Derived.Test.YtjbknbgdfhihcaaGreatQd1
import Derived.Test.YtjbknbgdfhihcaaGreatQe1
import Derived.Test.YtjbknbgdfhihcaaGreatQj1
import Derived.Test.YtjbknbgdfhihcaaGreatQK1
import Derived.Test.YtjbknbgdfhihcaaGreatQt1
import Derived.Test.YtjbknbgdfhihcaaGreatQu1
import Derived.Test.YtjbknbgdfhihcaaGreatQy1
import Derived.Test.YtjbknbgdfhihcaaGreatQz1
import Derived.Test.YtjbknbgdfhihcaaGreatQL1
import Derived.Test.YtjbknbgdfhihcaaGreatQLb1
import Derived.Test.YtjbknbgdfhihcaaGreatRead
import Derived.WalkKit
import Derived.ProofKit
import Derived.OpenShut
import Derived.ShutString
import Derived.ChangeOld
import Derived.Below
import Derived.SizedLaws
namespace Go.Proofs.YtjbknbgdfhihcaaGreat.fnExactLaunch
open Go.ChangeShapes Go.WideShapes Go.ChangeAt Go.RowKit
open Go.ChangeMaps (open_string shut_string)
set_option linter.unusedVariables false
set_option linter.unusedSimpArgs false
theorem own : ownKnob Tryz.prog.godebug = none := by kernel_rfl
theorem laidOut : laidOutB Tryz.prog = true := by kernel_rfl
set_option maxRecDepth 100000 in
theorem lifted (os : Os) (started : os.Started) (H : Type) (enc : TypeId × Value → H) :
    ReturnsInHanded {} Tryz.checked os 4 .any (Rows.fnExactLaunchSpec.pre6 enc Tryz.prog Tryz.f4 Rows.fnExactLaunchRow.domain false) (Rows.fnExactLaunchSpec.post enc Tryz.prog Tryz.f4 false true false false) := by
  refine returnsInHanded_of_change_sized (C := Tryz.checked) own started (by kernel_rfl) Tryz.func4
    (ChangeSpec.witness6 (enc := enc) (C := Tryz.checked) false ⟨#[], #[.agg #[.slice none 0 0, .slice none 0 0]], []⟩ 8 (by kernel_rfl) (by kernel_rfl) (by kernel_rfl) (by kernel_rfl)) ?_
  intro W base args ds gs before hval0 hW hcnd hsz0 _
  have hsz : (DataW.weightsEach Tryz.prog (Tryz.f4.params.toList ++ Rows.fnExactLaunchSpec.plain.varTypes Tryz.prog) (ds ++ gs)).all (· ≤ reachBytes) = true := hsz0
  have hval : ∀ (j : Nat) t v, Tryz.f4.params[j]? = some t → args[j]? = some v → Value.okWide Tryz.prog W .any base t v := hval0
  have hW' := hW
  obtain ⟨p, q, hA0, hV, rfl, hfz, hnd⟩ := hW
  have hA : DataW.TrodAll enc Tryz.prog W 0 (fun _ => true) true Tryz.f4.params.toList args.toList ds p := hA0
  rw [Tryz.params4] at hA hval hsz
  obtain ⟨v0, vs0, d0, ds0, p0, q0, hargs, rfl, rfl, h0, r0⟩ := trodAll_cons hA
  obtain ⟨rfl, rfl, rfl⟩ := trodAll_nil r0
  obtain rfl : args = #[v0] := by cases args; simp_all
  obtain ⟨rfl, rfl⟩ := trodVars_none hV
  obtain ⟨_, rfl, _⟩ := okWide_struct Tryz.underlying56 (hval 0 56 v0 rfl rfl)
  have k0 := h0
  have lt0 : ∀ x ∈ p0, x.block < W.heap.size := by obtain ⟨m, hm⟩ := k0; exact DataW.trod_lt m _ _ _ hm
  obtain ⟨x0, q0', s0⟩ := (Go.Sep.Reading.map (d := (Go.Sep.progC .bw)) (R := fun p : Go.Sep.Prog => p.caps.length < 2 ^ 63 ∧ p.bods.length < 2 ^ 63 ∧ ∀ b ∈ p.bods, b.length < 2 ^ 63) (Go.Sep.read_st Tryz.underlying56 (by kernel_rfl) (Go.Sep.read_fs rfl (Go.Sep.read_sl Tryz.underlying41 (by kernel_rfl) (by decide) (Go.Sep.read_int Tryz.underlying3 (by kernel_rfl))) (Go.Sep.read_fs rfl (Go.Sep.read_sl Tryz.underlying54 (by kernel_rfl) (by decide) (Go.Sep.read_sl Tryz.underlying190 (by kernel_rfl) (by decide) (Go.Sep.Reading.map (d := Go.Sep.insC) (R := fun _ => True) (Go.Sep.read_st Tryz.underlying248 (by kernel_rfl) (Go.Sep.read_fs rfl (Go.Sep.read_int Tryz.underlying3 (by kernel_rfl)) (Go.Sep.read_fs rfl (Go.Sep.read_int Tryz.underlying3 (by kernel_rfl)) (Go.Sep.read_fs rfl (Go.Sep.read_int Tryz.underlying3 (by kernel_rfl)) (Go.Sep.read_fs rfl (Go.Sep.read_int Tryz.underlying3 (by kernel_rfl)) (Go.Sep.read_fs rfl (Go.Sep.read_int Tryz.underlying3 (by kernel_rfl)) (Go.Sep.read_fs0 5))))))) (fun x => (⟨x.1, x.2.1, x.2.2.1, x.2.2.2.1, x.2.2.2.2.1⟩ : Go.Sep.Ins)) (fun _ => ⟨rfl, rfl⟩) (fun _ => rfl) (fun _ _ => trivial)))) (Go.Sep.read_fs0 2)))) (fun x => (⟨x.1, x.2.1⟩ : Go.Sep.Prog)) (fun _ => ⟨rfl, rfl⟩) (fun _ => rfl) (fun x q => ⟨q.1.1, q.2.1.1, fun b hb => (q.2.1.2 b hb).1⟩)).agg h0
  have hc := (Go.Sep.exactLaunch_ok x0 q0').2 (Go.Sep.entry Go.Sep.num W) (fun _ => []) _ rfl rfl (Go.Sep.entry_ok _ _) (Go.Sep.RVs_one s0 Go.Sep.RVs_zero)
  refine Calls.mono hc fun e W' he => ?_
  obtain ⟨he, bel⟩ : e = .returned (.bool true) ∧ Below W.heap.size W W' := by
    cases e with
    | returned v => obtain ⟨h1, h2⟩ := Go.Sep.below_of_post he; exact ⟨by rw [h1], h2⟩
    | panicked c => exact he.elim
    | outgrown => exact he.elim
  subst he
  exact ⟨_, rfl, _, _, _, [], _, [], hW', trodAll_mk1 (shut_bool Tryz.underlying4 _), (trodAll_cons_mk (Below.trod laidOut (by kernel_rfl) (of_decide_eq_true (by kernel_rfl)) k0 bel lt0) trodAll_mk0), rfl, bel.frame _, fun h => by cases h⟩
set_option maxRecDepth 100000 in
theorem closed : joinedFacts Tryz.prog 4 Tryz.f4 Rows.fnExactLaunchSpec Rows.fnExactLaunchRow = true := by
  unfold joinedFacts
  rw [x0, x1, x2, x3, x4, x5, x6, x7, x8, x9, x10, x11, x12, x13, x14, x15, x16, x17, x18, x19, x20, x21, x22, x23, x24, x25, x26, x27, x29, x30, x31]
  kernel_rfl
theorem named : Tryz.prog.funcNamed Rows.fnExactLaunchRow.func = some 4 := by kernel_rfl
theorem inst : Tryz.f4.isInstance Tryz.prog Rows.fnExactLaunchRow.origin Rows.fnExactLaunchRow.targs := of_decide_eq_true (by kernel_rfl)
theorem over : Rows.fnExactLaunchRow.holds Tryz.pinned (OpenSpec.ofChange Rows.fnExactLaunchSpec) :=
  OpenClaim.holds_of_wide 4 Tryz.f4 rfl rfl rfl rfl rfl rfl rfl ⟨rfl, rfl, rfl, rfl, rfl⟩ rfl rfl rfl rfl rfl named Tryz.func4 closed
    inst (by unfold Func.isWrapper; first | (rw [if_pos (by decide +kernel)]; kernel_rfl) | (rw [if_neg (by decide +kernel)]; exact ⟨rfl, rfl⟩))
    (fun os started H enc _ => lifted os started H enc)
theorem proved : Rows.FnExactLaunchSaid := over
end Go.Proofs.YtjbknbgdfhihcaaGreat.fnExactLaunch
namespace Go.Proofs.YtjbknbgdfhihcaaGreat
/-- The row, under a short name, for the claim. -/
theorem fnExactLaunch_holds : Rows.FnExactLaunchSaid := fnExactLaunch.proved
end Go.Proofs.YtjbknbgdfhihcaaGreat
