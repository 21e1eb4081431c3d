/- The law FnResumed returns true for all arguments, and its arguments read as before. No condition. -/
import Derived.Test.YtoijhndfkfliiaaRows
import Derived.Test.YtoijhndfkfliiaaConR
import Derived.Test.YtoijhndfkfliiaaRead
import Derived.WalkKit
import Derived.ProofKit
import Derived.OpenShut
import Derived.ShutString
import Derived.ChangeOld
import Derived.Below
import Derived.SizedLaws
namespace Go.Proofs.Ytoijhndfkfliiaa.fnResumed
open Go.ChangeShapes Go.WideShapes Go.ChangeAt Go.RowKit
open Go.ChangeMaps (open_string shut_string)
set_option linter.unusedVariables false
set_option linter.unusedSimpArgs false
theorem own : ownKnob Try.prog.godebug = none := by kernel_rfl
theorem laidOut : laidOutB Try.prog = true := by kernel_rfl
set_option maxRecDepth 100000 in
theorem lifted (os : Os) (started : os.Started) (H : Type) (enc : TypeId × Value → H) :
    ReturnsInHanded {} Try.checked os 9 .any (Rows.fnResumedSpec.pre6 enc Try.prog Try.f9 Rows.fnResumedRow.domain false) (Rows.fnResumedSpec.post enc Try.prog Try.f9 false true false false) := by
  refine returnsInHanded_of_change_sized (C := Try.checked) own started (by kernel_rfl) Try.func9
    (ChangeSpec.witness6 (enc := enc) (C := Try.checked) false ⟨#[], #[.slice none 0 0], []⟩ 8 (by kernel_rfl) (by kernel_rfl) (by kernel_rfl) (by kernel_rfl)) ?_
  intro W base args ds gs before hval0 hW hcnd hsz0 _
  have hsz : (DataW.weightsEach Try.prog (Try.f9.params.toList ++ Rows.fnResumedSpec.plain.varTypes Try.prog) (ds ++ gs)).all (· ≤ reachBytes) = true := hsz0
  have hval : ∀ (j : Nat) t v, Try.f9.params[j]? = some t → args[j]? = some v → Value.okWide Try.prog W .any base t v := hval0
  have hW' := hW
  obtain ⟨p, q, hA0, hV, rfl, hfz, hnd⟩ := hW
  have hA : DataW.TrodAll enc Try.prog W 0 (fun _ => true) true Try.f9.params.toList args.toList ds p := hA0
  rw [Try.params9] at hA hval hsz
  obtain ⟨v0, vs0, d0, ds0, p0, q0, hargs, rfl, rfl, h0, r0⟩ := trodAll_cons hA
  obtain ⟨rfl, rfl, rfl⟩ := trodAll_nil r0
  obtain rfl : args = #[v0] := by cases args; simp_all
  obtain ⟨rfl, rfl⟩ := trodVars_none hV
  obtain ⟨_, _, _, rfl⟩ := okWide_slice Try.underlying26 (hval 0 26 v0 rfl rfl)
  have k0 := h0
  have lt0 : ∀ x ∈ p0, x.block < W.heap.size := by obtain ⟨m, hm⟩ := k0; exact DataW.trod_lt m _ _ _ hm
  obtain ⟨x0, q0', s0⟩ := (Go.Sep.read_sl Try.underlying26 (by kernel_rfl) (by decide) (Go.Sep.read_u8 Try.underlying5 (by kernel_rfl))).one rfl h0
  have s0 := Go.Sep.RV_frozen (by intro r hr c hc; obtain ⟨x, _, rfl⟩ := List.mem_map.1 hr; rw [List.mem_singleton.1 hc]; exact ⟨_, _, rfl⟩) s0
  rw [show (x0.map fun n : UInt8 => [Go.Sep.AV.int .u8 n.toNat]) = Go.Sep.bys (x0.map fun n => (n.toNat : Int)) by simp [Go.Sep.bys]] at s0
  have hc := (Go.Sep.fnResumed_ok (x0.map fun n => (n.toNat : Int)) (Go.Sep.bytes_in x0)).2 (Go.Sep.entryF Go.Sep.num W) (fun _ => []) _ rfl rfl (Go.Sep.entryF_ok _ _) (Go.Sep.RVs_one s0 Go.Sep.RVs_zero)
  refine Calls.mono hc fun e W' he => ?_
  obtain ⟨he, bel⟩ : e = .returned (.bool true) ∧ Below W.heap.size W W' := by
    cases e with
    | returned v => obtain ⟨h1, h2⟩ := Go.Sep.below_of_post he; exact ⟨by rw [h1], h2⟩
    | panicked c => exact he.elim
    | outgrown => exact he.elim
  subst he
  exact ⟨_, rfl, _, _, _, [], _, [], hW', trodAll_mk1 (shut_bool Try.underlying4 _), (trodAll_cons_mk (Below.trod laidOut (by kernel_rfl) (of_decide_eq_true (by kernel_rfl)) k0 bel lt0) trodAll_mk0), rfl, bel.frame _, fun h => by cases h⟩
theorem x0 : (Rows.fnResumedRow.wf (OpenSpec.ofChange Rows.fnResumedSpec)) = true := by kernel_rfl
theorem x1 : (laidOutB Try.prog) = true := by kernel_rfl
theorem x2 : (mapsRowed Try.prog) = true := by kernel_rfl
theorem x3 : (Try.f9.params.all (Try.prog.readableRec ·)) = true := by kernel_rfl
theorem x4 : (namedTie Try.prog Rows.fnResumedRow.named Rows.fnResumedSpec.vars) = true := by kernel_rfl
theorem x5 : ((Rows.fnResumedRow.stops == [])) = true := by kernel_rfl
theorem x6 : ((Try.prog.stops == [])) = true := by kernel_rfl
theorem x7 : ((Rows.fnResumedRow.knobs == [])) = true := by kernel_rfl
theorem x8 : ((Try.prog.stopKnobs == [])) = true := by kernel_rfl
theorem x9 : ((Rows.fnResumedRow.inPlace == Try.prog.inPlace 9)) = true := by kernel_rfl
theorem x10 : ((Rows.fnResumedRow.unfollowed == Try.prog.unfollowed 9)) = true := by kernel_rfl
theorem x11 : ((Rows.fnResumedRow.recurses == Try.prog.recurses 9)) = true := by kernel_rfl
theorem x12 : ((Rows.fnResumedRow.named == Try.prog.varsNamed 9)) = true := by kernel_rfl
theorem x13 : ((Rows.fnResumedRow.maps == (Try.f9.params.toList ++ Rows.fnResumedSpec.plain.varTypes Try.prog).any (Try.prog.mapsRec ·))) = true := by kernel_rfl
theorem x14 : ((Rows.fnResumedRow.ifaces == (Try.f9.params.toList ++ Rows.fnResumedSpec.plain.varTypes Try.prog).any (Try.prog.ifacesRec ·))) = true := by kernel_rfl
theorem x15 : ((Rows.fnResumedRow.mapsOut == Try.prog.mapsAmong Try.f9.resultTypes.toList)) = true := by kernel_rfl
theorem x16 : ((Rows.fnResumedRow.loops == (Try.f9.params.toList ++ Rows.fnResumedSpec.plain.varTypes Try.prog).any (Try.prog.loopsFrom ·))) = true := by kernel_rfl
theorem x17 : ((Rows.fnResumedRow.wideKeys == (Try.f9.params.toList ++ Rows.fnResumedSpec.plain.varTypes Try.prog ++ Try.f9.resultTypes.toList).any (Try.prog.wideKeysFrom ·))) = true := by kernel_rfl
theorem x18 : (Rows.fnResumedSpec.vars.all (Try.prog.varReadable ·)) = true := by kernel_rfl
theorem x19 : (Try.f9.resultTypes.all (fun t => Try.prog.readableRec t && decide (t < Try.prog.types.size))) = true := by kernel_rfl
theorem x20 : ((Rows.fnResumedRow.ifacesOut == Try.f9.resultTypes.toList.any (Try.prog.ifacesRec ·))) = true := by kernel_rfl
theorem x21 : ((Rows.fnResumedRow.loopsOut == Try.f9.resultTypes.toList.any (Try.prog.loopsFrom ·))) = true := by kernel_rfl
theorem x22 : ((Rows.fnResumedRow.plainKeys == Try.prog.plainKeys)) = true := by kernel_rfl
theorem x23 : (Rows.fnResumedRow.shortTexts.isNone) = true := by kernel_rfl
theorem x24 : (Try.prog.stopsHeard) = true := by kernel_rfl
theorem x25 : (Try.prog.mayEnter) = true := by kernel_rfl
theorem x26 : ((Rows.fnResumedRow.lifted == Try.prog.liftsFinal)) = true := by kernel_rfl
theorem x27 : ((Try.prog.make == some Rows.fnResumedRow.make)) = true := by kernel_rfl
theorem x29 : ((Rows.fnResumedRow.pinned == Rows.fnResumedRow.pinnedBy)) = true := by kernel_rfl
theorem x30 : ((Rows.fnResumedRow.veiled == (Try.f9.params.toList ++ Rows.fnResumedSpec.plain.varTypes Try.prog ++ Try.f9.resultTypes.toList).any (Try.prog.veiledRec ·))) = true := by kernel_rfl
theorem x31 : (Rows.fnResumedRow.veiledFits Try.prog Try.f9.params.toList (Try.f9.params.toList ++ Rows.fnResumedSpec.plain.varTypes Try.prog ++ Try.f9.resultTypes.toList)) = true := by kernel_rfl
set_option maxRecDepth 100000 in
theorem closed : joinedFacts Try.prog 9 Try.f9 Rows.fnResumedSpec Rows.fnResumedRow = true := by
  unfold joinedFacts
  rw [x0, x1, x2, x3, x4, x5, x6, x7, x8, x9, x10, x11, x12, x13, x14, x15, x16, x17, x18, x19, x20, x21, x22, x23, x24, x25, x26, x27, x29, x30, x31]
  kernel_rfl
theorem named : Try.prog.funcNamed Rows.fnResumedRow.func = some 9 := by kernel_rfl
theorem inst : Try.f9.isInstance Try.prog Rows.fnResumedRow.origin Rows.fnResumedRow.targs := of_decide_eq_true (by kernel_rfl)
theorem over : Rows.fnResumedRow.holds Try.pinned (OpenSpec.ofChange Rows.fnResumedSpec) :=
  OpenClaim.holds_of_wide 9 Try.f9 rfl rfl rfl rfl rfl rfl rfl ⟨rfl, rfl, rfl, rfl, rfl⟩ rfl rfl rfl rfl rfl named Try.func9 closed
    inst (by unfold Func.isWrapper; first | (rw [if_pos (by decide +kernel)]; kernel_rfl) | (rw [if_neg (by decide +kernel)]; exact ⟨rfl, rfl⟩))
    (fun os started H enc _ => lifted os started H enc)
theorem proved : Rows.FnResumedSaid := over
end Go.Proofs.Ytoijhndfkfliiaa.fnResumed
namespace Go.Proofs.Ytoijhndfkfliiaa
/-- The row, under a short name, for the claim. -/
theorem fnResumed_holds : Rows.FnResumedSaid := fnResumed.proved
end Go.Proofs.Ytoijhndfkfliiaa
