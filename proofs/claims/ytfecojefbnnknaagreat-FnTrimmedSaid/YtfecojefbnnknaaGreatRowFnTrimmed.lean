/- The law FnTrimmed returns true for all arguments, and its arguments read as before. No condition. -/
import Derived.Test.YtfecojefbnnknaaGreatRows
import Derived.Test.YtfecojefbnnknaaGreatShutFnTrimmed
import Derived.Test.YtfecojefbnnknaaGreatRxx30
import Derived.Test.YtfecojefbnnknaaGreatRzRead
import Derived.WalkKit
import Derived.ProofKit
import Derived.OpenShut
import Derived.ShutString
import Derived.ChangeOld
import Derived.Below
import Derived.SizedLaws
namespace Go.Proofs.YtfecojefbnnknaaGreat.fnTrimmed
open Go.ChangeShapes Go.WideShapes Go.ChangeAt Go.RowKit
open Go.ChangeMaps (open_string shut_string)
set_option linter.unusedVariables false
set_option linter.unusedSimpArgs false
theorem own : ownKnob Tryz.prog.godebug = none := by kernel_rfl
theorem laidOut : laidOutB Tryz.prog = true := by kernel_rfl
set_option maxRecDepth 100000 in
theorem lifted (os : Os) (started : os.Started) (H : Type) (enc : TypeId × Value → H) :
  ReturnsInHanded {} Tryz.checked os 3 .any (Rows.fnTrimmedSpec.pre6 enc Tryz.prog Tryz.f3 Rows.fnTrimmedRow.domain false) (Rows.fnTrimmedSpec.post enc Tryz.prog Tryz.f3 false true false false) := by
 refine returnsInHanded_of_change_sized (C := Tryz.checked) own started (by kernel_rfl) Tryz.func3
  (ChangeSpec.witness6 (enc := enc) (C := Tryz.checked) false ⟨#[], #[.slice none 0 0], []⟩ 8 (by kernel_rfl) (by kernel_rfl) (by kernel_rfl) (by kernel_rfl)) ?_
 intro W base args ds gs before hval0 hW hcnd hsz0 _
 have hsz : (DataW.weightsEach Tryz.prog (Tryz.f3.params.toList ++ Rows.fnTrimmedSpec.plain.varTypes Tryz.prog) (ds ++ gs)).all (· ≤ reachBytes) = true := hsz0
 have hval : ∀ (j : Nat) t v, Tryz.f3.params[j]? = some t → args[j]? = some v → Value.okWide Tryz.prog W .any base t v := hval0
 have hW' := hW
 obtain ⟨p, q, hA0, hV, rfl, hfz, hnd⟩ := hW
 have hA : DataW.TrodAll enc Tryz.prog W 0 (fun _ => true) true Tryz.f3.params.toList args.toList ds p := hA0
 rw [Tryz.params3] at hA hval hsz
 obtain ⟨v0, vs0, d0, ds0, p0, q0, hargs, rfl, rfl, h0, r0⟩ := trodAll_cons hA
 obtain ⟨rfl, rfl, rfl⟩ := trodAll_nil r0
 obtain rfl : args = #[v0] := by cases args; simp_all
 obtain ⟨rfl, rfl⟩ := trodVars_none hV
 obtain ⟨_, _, _, rfl⟩ := okWide_slice Tryz.underlying22 (hval 0 22 v0 rfl rfl)
 have k0 := h0
 have lt0 : ∀ x ∈ p0, x.block < W.heap.size := by obtain ⟨m, hm⟩ := k0; exact DataW.trod_lt m _ _ _ hm
 obtain ⟨x0, q0', s0⟩ := (Go.Sep.wB0 Tryz.underlying22 (by kernel_rfl) (by decide) (Go.Sep.wAz Tryz.underlying5 (by kernel_rfl))).one rfl h0
 have s0 := Go.Sep.wAk (by intro r hr c hc; obtain ⟨x, _, rfl⟩ := List.mem_map.1 hr; rw [List.mem_singleton.1 hc]; exact ⟨_, _, rfl⟩) s0
 rw [show (x0.map fun n : UInt8 => [Go.Sep.AV.int .u8 n.toNat]) = Go.Sep.bys (x0.map fun n => (n.toNat : Int)) by simp [Go.Sep.bys]] at s0
 have hc := (Go.Sep.qZ5 (x0.map fun n => (n.toNat : Int))).2 (Go.Sep.qWt Go.Sep.num W) (fun _ => []) _ rfl rfl (Go.Sep.wAj _ _) (Go.Sep.wB1 s0 Go.Sep.wAw)
 refine Calls.mono hc fun e W' he => ?_
 obtain ⟨he, bel⟩ : e = .returned (.bool true) ∧ Below W.heap.size W W' := by
  cases e with
  | returned v => obtain ⟨h1, h2⟩ := Go.Sep.qXx he; exact ⟨by rw [h1], h2⟩
  | panicked c => exact he.elim
  | outgrown => exact he.elim
 subst he
 exact ⟨_, rfl, _, _, _, [], _, [], hW', trodAll_mk1 (shut_bool Tryz.underlying4 _), (trodAll_cons_mk (Below.trod laidOut (by kernel_rfl) (of_decide_eq_true (by kernel_rfl)) k0 bel lt0) trodAll_mk0), rfl, bel.frame _, fun h => by cases h⟩
set_option maxRecDepth 100000 in
theorem closed : joinedFacts Tryz.prog 3 Tryz.f3 Rows.fnTrimmedSpec Rows.fnTrimmedRow = true := by
 unfold joinedFacts
 rw [x0, x1, x2, x3, x4, x5, x6, x7, x8, x9, x10, x11, x12, x13, x14, x15, x16, x17, x18, x19, x20, x21, x22, x23, x24, x25, x26, x27, x29, x30, x31]
 kernel_rfl
theorem named : Tryz.prog.funcNamed Rows.fnTrimmedRow.func = some 3 := by kernel_rfl
theorem inst : Tryz.f3.isInstance Tryz.prog Rows.fnTrimmedRow.origin Rows.fnTrimmedRow.targs := of_decide_eq_true (by kernel_rfl)
theorem over : Rows.fnTrimmedRow.holds Tryz.pinned (OpenSpec.ofChange Rows.fnTrimmedSpec) :=
 OpenClaim.holds_of_wide 3 Tryz.f3 rfl rfl rfl rfl rfl rfl rfl ⟨rfl, rfl, rfl, rfl, rfl⟩ rfl rfl rfl rfl rfl named Tryz.func3 closed
  inst (by unfold Func.isWrapper; first | (rw [if_pos (by decide +kernel)]; kernel_rfl) | (rw [if_neg (by decide +kernel)]; exact ⟨rfl, rfl⟩))
  (fun os started H enc _ => lifted os started H enc)
theorem proved : Rows.FnTrimmedSaid := over
end Go.Proofs.YtfecojefbnnknaaGreat.fnTrimmed
namespace Go.Proofs.YtfecojefbnnknaaGreat
theorem fnTrimmed_holds : Rows.FnTrimmedSaid := fnTrimmed.proved
end Go.Proofs.YtfecojefbnnknaaGreat
