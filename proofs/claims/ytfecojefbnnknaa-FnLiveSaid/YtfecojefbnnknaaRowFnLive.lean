/- The law FnLive returns true for all arguments, and its arguments read as before. No condition. -/
import Derived.Test.YtfecojefbnnknaaRows
import Derived.Test.YtfecojefbnnknaaShutFnLive
import Derived.Test.YtfecojefbnnknaaLxx26
import Derived.Test.YtfecojefbnnknaaLzRead
import Derived.WalkKit
import Derived.ProofKit
import Derived.OpenShut
import Derived.ShutString
import Derived.ChangeOld
import Derived.Below
import Derived.SizedLaws
namespace Go.Proofs.Ytfecojefbnnknaa.fnLive
open Go.ChangeShapes Go.WideShapes Go.ChangeAt Go.RowKit
open Go.ChangeMaps (open_string shut_string)
set_option linter.unusedVariables false
set_option linter.unusedSimpArgs false
theorem own : ownKnob Try.prog.godebug = none := by kernel_rfl
theorem laidOut : laidOutB Try.prog = true := by kernel_rfl
set_option maxRecDepth 100000 in
theorem lifted (os : Os) (started : os.Started) (H : Type) (enc : TypeId × Value → H) :
  ReturnsInHanded {} Try.checked os 5 .any (Rows.fnLiveSpec.pre6 enc Try.prog Try.f5 Rows.fnLiveRow.domain false) (Rows.fnLiveSpec.post enc Try.prog Try.f5 false true false false) := by
 refine returnsInHanded_of_change_sized (C := Try.checked) own started (by kernel_rfl) Try.func5
  (ChangeSpec.witness6 (enc := enc) (C := Try.checked) false ⟨#[], #[.slice none 0 0], []⟩ 8 (by kernel_rfl) (by kernel_rfl) (by kernel_rfl) (by kernel_rfl)) ?_
 intro W base args ds gs before hval0 hW hcnd hsz0 _
 have hsz : (DataW.weightsEach Try.prog (Try.f5.params.toList ++ Rows.fnLiveSpec.plain.varTypes Try.prog) (ds ++ gs)).all (· ≤ reachBytes) = true := hsz0
 have hval : ∀ (j : Nat) t v, Try.f5.params[j]? = some t → args[j]? = some v → Value.okWide Try.prog W .any base t v := hval0
 have hW' := hW
 obtain ⟨p, q, hA0, hV, rfl, hfz, hnd⟩ := hW
 have hA : DataW.TrodAll enc Try.prog W 0 (fun _ => true) true Try.f5.params.toList args.toList ds p := hA0
 rw [Try.params5] at hA hval hsz
 obtain ⟨v0, vs0, d0, ds0, p0, q0, hargs, rfl, rfl, h0, r0⟩ := trodAll_cons hA
 obtain ⟨rfl, rfl, rfl⟩ := trodAll_nil r0
 obtain rfl : args = #[v0] := by cases args; simp_all
 obtain ⟨rfl, rfl⟩ := trodVars_none hV
 obtain ⟨_, _, _, rfl⟩ := okWide_slice Try.underlying22 (hval 0 22 v0 rfl rfl)
 have k0 := h0
 have lt0 : ∀ x ∈ p0, x.block < W.heap.size := by obtain ⟨m, hm⟩ := k0; exact DataW.trod_lt m _ _ _ hm
 obtain ⟨x0, q0', s0⟩ := (Go.Sep.qZ5 Try.underlying22 (by kernel_rfl) (by decide) (Go.Sep.qZ4 Try.underlying5 (by kernel_rfl))).one rfl h0
 have s0 := Go.Sep.qYp (by intro r hr c hc; obtain ⟨x, _, rfl⟩ := List.mem_map.1 hr; rw [List.mem_singleton.1 hc]; exact ⟨_, _, rfl⟩) s0
 rw [show (x0.map fun n : UInt8 => [Go.Sep.AV.int .u8 n.toNat]) = Go.Sep.bys (x0.map fun n => (n.toNat : Int)) by simp [Go.Sep.bys]] at s0
 have hc := (Go.Sep.qYn (x0.map fun n => (n.toNat : Int)) (Go.Sep.qYy x0)).2 (Go.Sep.qUw Go.Sep.num W) (fun _ => []) _ rfl rfl (Go.Sep.qYo _ _) (Go.Sep.qZ6 s0 Go.Sep.qZ2)
 refine Calls.mono hc fun e W' he => ?_
 obtain ⟨he, bel⟩ : e = .returned (.bool true) ∧ Below W.heap.size W W' := by
  cases e with
  | returned v => obtain ⟨h1, h2⟩ := Go.Sep.qW3 he; exact ⟨by rw [h1], h2⟩
  | panicked c => exact he.elim
  | outgrown => exact he.elim
 subst he
 exact ⟨_, rfl, _, _, _, [], _, [], hW', trodAll_mk1 (shut_bool Try.underlying4 _), (trodAll_cons_mk (Below.trod laidOut (by kernel_rfl) (of_decide_eq_true (by kernel_rfl)) k0 bel lt0) trodAll_mk0), rfl, bel.frame _, fun h => by cases h⟩
set_option maxRecDepth 100000 in
theorem closed : joinedFacts Try.prog 5 Try.f5 Rows.fnLiveSpec Rows.fnLiveRow = true := by
 unfold joinedFacts
 rw [x0, x1, x2, x3, x4, x5, x6, x7, x8, x9, x10, x11, x12, x13, x14, x15, x16, x17, x18, x19, x20, x21, x22, x23, x24, x25, x26, x27, x29, x30, x31]
 kernel_rfl
theorem named : Try.prog.funcNamed Rows.fnLiveRow.func = some 5 := by kernel_rfl
theorem inst : Try.f5.isInstance Try.prog Rows.fnLiveRow.origin Rows.fnLiveRow.targs := of_decide_eq_true (by kernel_rfl)
theorem over : Rows.fnLiveRow.holds Try.pinned (OpenSpec.ofChange Rows.fnLiveSpec) :=
 OpenClaim.holds_of_wide 5 Try.f5 rfl rfl rfl rfl rfl rfl rfl ⟨rfl, rfl, rfl, rfl, rfl⟩ rfl rfl rfl rfl rfl named Try.func5 closed
  inst (by unfold Func.isWrapper; first | (rw [if_pos (by decide +kernel)]; kernel_rfl) | (rw [if_neg (by decide +kernel)]; exact ⟨rfl, rfl⟩))
  (fun os started H enc _ => lifted os started H enc)
theorem proved : Rows.FnLiveSaid := over
end Go.Proofs.Ytfecojefbnnknaa.fnLive
namespace Go.Proofs.Ytfecojefbnnknaa
theorem fnLive_holds : Rows.FnLiveSaid := fnLive.proved
end Go.Proofs.Ytfecojefbnnknaa
