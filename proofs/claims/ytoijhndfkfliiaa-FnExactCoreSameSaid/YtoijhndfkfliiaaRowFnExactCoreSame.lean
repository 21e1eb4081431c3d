/- The law FnExactCoreSame returns true for all arguments, and its arguments read as before. No condition. -/
import Derived.Test.YtoijhndfkfliiaaRows
import Derived.Test.YtoijhndfkfliiaaConC
import Derived.Test.YtoijhndfkfliiaaRead
import Derived.WalkKit
import Derived.ProofKit
import Derived.OpenShut
import Derived.ShutString
import Derived.ChangeOld
import Derived.Below
import Derived.SizedLaws
namespace Go.Proofs.Ytoijhndfkfliiaa.fnExactCoreSame
open Go.ChangeShapes Go.WideShapes Go.ChangeAt Go.RowKit
open Go.ChangeMaps (open_string shut_string)
set_option linter.unusedVariables false
set_option linter.unusedSimpArgs false
theorem own : ownKnob Try.prog.godebug = none := by kernel_rfl
theorem laidOut : laidOutB Try.prog = true := by kernel_rfl
set_option maxRecDepth 100000 in
theorem lifted (os : Os) (started : os.Started) (H : Type) (enc : TypeId × Value → H) :
    ReturnsInHanded {} Try.checked os 7 .any (Rows.fnExactCoreSameSpec.pre6 enc Try.prog Try.f7 Rows.fnExactCoreSameRow.domain false) (Rows.fnExactCoreSameSpec.post enc Try.prog Try.f7 false true false false) := by
  refine returnsInHanded_of_change_sized (C := Try.checked) own started (by kernel_rfl) Try.func7
    (ChangeSpec.witness6 (enc := enc) (C := Try.checked) false ⟨#[], #[.agg #[.slice none 0 0, .slice none 0 0], .agg #[.slice none 0 0, .slice none 0 0, .slice none 0 0, .slice none 0 0], .agg #[.slice none 0 0, .slice none 0 0, .slice none 0 0], .int .i64 0], []⟩ 8 (by kernel_rfl) (by kernel_rfl) (by kernel_rfl) (by kernel_rfl)) ?_
  intro W base args ds gs before hval0 hW hcnd hsz0 _
  have hsz : (DataW.weightsEach Try.prog (Try.f7.params.toList ++ Rows.fnExactCoreSameSpec.plain.varTypes Try.prog) (ds ++ gs)).all (· ≤ reachBytes) = true := hsz0
  have hval : ∀ (j : Nat) t v, Try.f7.params[j]? = some t → args[j]? = some v → Value.okWide Try.prog W .any base t v := hval0
  have hW' := hW
  obtain ⟨p, q, hA0, hV, rfl, hfz, hnd⟩ := hW
  have hA : DataW.TrodAll enc Try.prog W 0 (fun _ => true) true Try.f7.params.toList args.toList ds p := hA0
  rw [Try.params7] at hA hval hsz
  obtain ⟨v0, vs0, d0, ds0, p0, q0, hargs, rfl, rfl, h0, r0⟩ := trodAll_cons hA
  obtain ⟨v1, vs1, d1, ds1, p1, q1, rfl, rfl, rfl, h1, r1⟩ := trodAll_cons r0
  obtain ⟨v2, vs2, d2, ds2, p2, q2, rfl, rfl, rfl, h2, r2⟩ := trodAll_cons r1
  obtain ⟨v3, vs3, d3, ds3, p3, q3, rfl, rfl, rfl, h3, r3⟩ := trodAll_cons r2
  obtain ⟨rfl, rfl, rfl⟩ := trodAll_nil r3
  obtain rfl : args = #[v0, v1, v2, v3] := by cases args; simp_all
  obtain ⟨rfl, rfl⟩ := trodVars_none hV
  obtain ⟨_, rfl, _⟩ := okWide_struct Try.underlying25 (hval 0 25 v0 rfl rfl)
  have k0 := h0
  have lt0 : ∀ x ∈ p0, x.block < W.heap.size := by obtain ⟨m, hm⟩ := k0; exact DataW.trod_lt m _ _ _ hm
  obtain ⟨x0, q0', s0⟩ := (Go.Sep.Reading.map (d := (Go.Sep.progC .bw)) (R := fun p : Go.Sep.Prog => p.caps.length < 2 ^ 63 ∧ p.bods.length < 2 ^ 63 ∧ ∀ b ∈ p.bods, b.length < 2 ^ 63) (Go.Sep.read_st Try.underlying25 (by kernel_rfl) (Go.Sep.read_fs rfl (Go.Sep.read_sl Try.underlying22 (by kernel_rfl) (by decide) (Go.Sep.read_int Try.underlying3 (by kernel_rfl))) (Go.Sep.read_fs rfl (Go.Sep.read_sl Try.underlying23 (by kernel_rfl) (by decide) (Go.Sep.read_sl Try.underlying191 (by kernel_rfl) (by decide) (Go.Sep.Reading.map (d := Go.Sep.insC) (R := fun _ => True) (Go.Sep.read_st Try.underlying265 (by kernel_rfl) (Go.Sep.read_fs rfl (Go.Sep.read_int Try.underlying3 (by kernel_rfl)) (Go.Sep.read_fs rfl (Go.Sep.read_int Try.underlying3 (by kernel_rfl)) (Go.Sep.read_fs rfl (Go.Sep.read_int Try.underlying3 (by kernel_rfl)) (Go.Sep.read_fs rfl (Go.Sep.read_int Try.underlying3 (by kernel_rfl)) (Go.Sep.read_fs rfl (Go.Sep.read_int Try.underlying3 (by kernel_rfl)) (Go.Sep.read_fs0 5))))))) (fun x => (⟨x.1, x.2.1, x.2.2.1, x.2.2.2.1, x.2.2.2.2.1⟩ : Go.Sep.Ins)) (fun _ => ⟨rfl, rfl⟩) (fun _ => rfl) (fun _ _ => trivial)))) (Go.Sep.read_fs0 2)))) (fun x => (⟨x.1, x.2.1⟩ : Go.Sep.Prog)) (fun _ => ⟨rfl, rfl⟩) (fun _ => rfl) (fun x q => ⟨q.1.1, q.2.1.1, fun b hb => (q.2.1.2 b hb).1⟩)).agg h0
  obtain ⟨_, rfl, _⟩ := okWide_struct Try.underlying76 (hval 1 76 v1 rfl rfl)
  have k1 := h1
  have lt1 : ∀ x ∈ p1, x.block < W.heap.size := by obtain ⟨m, hm⟩ := k1; exact DataW.trod_lt m _ _ _ hm
  obtain ⟨x1, q1', s1⟩ := (Go.Sep.Reading.map (d := (Go.Sep.machineC .bw)) (R := Go.Sep.LongM) (Go.Sep.read_st Try.underlying76 (by kernel_rfl) (Go.Sep.read_fs rfl (Go.Sep.read_sl Try.underlying69 (by kernel_rfl) (by decide) (Go.Sep.read_sl Try.underlying235 (by kernel_rfl) (by decide) (Go.Sep.Reading.map (d := Go.Sep.stepC) (R := fun _ => True) (Go.Sep.read_st Try.underlying294 (by kernel_rfl) (Go.Sep.read_fs rfl (Go.Sep.read_int Try.underlying3 (by kernel_rfl)) (Go.Sep.read_fs rfl (Go.Sep.read_int Try.underlying3 (by kernel_rfl)) (Go.Sep.read_fs rfl (Go.Sep.read_int Try.underlying3 (by kernel_rfl)) (Go.Sep.read_fs rfl (Go.Sep.read_int Try.underlying3 (by kernel_rfl)) (Go.Sep.read_fs rfl (Go.Sep.read_int Try.underlying3 (by kernel_rfl)) (Go.Sep.read_fs0 5))))))) (fun x => (⟨x.1, x.2.1, x.2.2.1, x.2.2.2.1, x.2.2.2.2.1⟩ : Go.Sep.Step)) (fun _ => ⟨rfl, rfl⟩) (fun _ => rfl) (fun _ _ => trivial)))) (Go.Sep.read_fs rfl (Go.Sep.read_sl Try.underlying70 (by kernel_rfl) (by decide) (Go.Sep.Reading.map (d := (Go.Sep.coreC .bw)) (R := fun k : Go.Sep.Core => k.regs.length < 2 ^ 63 ∧ k.view.length < 2 ^ 63) (Go.Sep.read_st Try.underlying237 (by kernel_rfl) (Go.Sep.read_fs rfl (Go.Sep.read_int Try.underlying3 (by kernel_rfl)) (Go.Sep.read_fs rfl (Go.Sep.read_sl Try.underlying22 (by kernel_rfl) (by decide) (Go.Sep.read_int Try.underlying3 (by kernel_rfl))) (Go.Sep.read_fs rfl (Go.Sep.read_sl Try.underlying22 (by kernel_rfl) (by decide) (Go.Sep.read_int Try.underlying3 (by kernel_rfl))) (Go.Sep.read_fs rfl (Go.Sep.read_int Try.underlying3 (by kernel_rfl)) (Go.Sep.read_fs0 4)))))) (fun x => (⟨x.1, x.2.1, x.2.2.1, x.2.2.2.1⟩ : Go.Sep.Core)) (fun _ => ⟨rfl, rfl⟩) (fun _ => rfl) (fun x q => ⟨q.2.1.1, q.2.2.1.1⟩))) (Go.Sep.read_fs rfl (Go.Sep.Reading.map (d := (Go.Sep.memoryC .bw)) (R := fun m : Go.Sep.Memory => m.cells.length < 2 ^ 63 ∧ (∀ c ∈ m.cells, c.length < 2 ^ 63) ∧ ∀ c ∈ m.cells, ∀ w ∈ c, w.view.length < 2 ^ 63) (Go.Sep.read_st Try.underlying73 (by kernel_rfl) (Go.Sep.read_fs rfl (Go.Sep.read_sl Try.underlying71 (by kernel_rfl) (by decide) (Go.Sep.read_sl Try.underlying292 (by kernel_rfl) (by decide) (Go.Sep.Reading.map (d := (Go.Sep.writeC .bw)) (R := fun w : Go.Sep.Write => w.view.length < 2 ^ 63) (Go.Sep.read_st Try.underlying314 (by kernel_rfl) (Go.Sep.read_fs rfl (Go.Sep.read_int Try.underlying3 (by kernel_rfl)) (Go.Sep.read_fs rfl (Go.Sep.read_sl Try.underlying22 (by kernel_rfl) (by decide) (Go.Sep.read_int Try.underlying3 (by kernel_rfl))) (Go.Sep.read_fs0 2)))) (fun x => (⟨x.1, x.2.1⟩ : Go.Sep.Write)) (fun _ => ⟨rfl, rfl⟩) (fun _ => rfl) (fun x q => q.2.1.1)))) (Go.Sep.read_fs0 1))) (fun x => (⟨x.1⟩ : Go.Sep.Memory)) (fun _ => ⟨rfl, rfl⟩) (fun _ => rfl) (fun x q => ⟨q.1.1, fun c hc => (q.1.2 c hc).1, fun c hc => (q.1.2 c hc).2⟩)) (Go.Sep.read_fs rfl (Go.Sep.read_sl Try.underlying74 (by kernel_rfl) (by decide) (Go.Sep.Reading.map (d := Go.Sep.noteC) (R := fun _ => True) (Go.Sep.read_st Try.underlying247 (by kernel_rfl) (Go.Sep.read_fs rfl (Go.Sep.read_int Try.underlying3 (by kernel_rfl)) (Go.Sep.read_fs rfl (Go.Sep.read_int Try.underlying3 (by kernel_rfl)) (Go.Sep.read_fs0 2)))) (fun x => (⟨x.1, x.2.1⟩ : Go.Sep.Note)) (fun _ => ⟨rfl, rfl⟩) (fun _ => rfl) (fun _ _ => trivial))) (Go.Sep.read_fs0 4)))))) (fun x => (⟨x.1, x.2.1, x.2.2.1, x.2.2.2.1⟩ : Go.Sep.Machine)) (fun _ => ⟨rfl, rfl⟩) (fun _ => rfl) (fun x q => ⟨q.1.1, fun c hc => (q.1.2 c hc).1, q.2.1.1, fun k hk => (q.2.1.2 k hk).1, fun k hk => (q.2.1.2 k hk).2, q.2.2.1.1, q.2.2.1.2.1, q.2.2.1.2.2, q.2.2.2.1.1⟩)).agg h1
  obtain ⟨_, rfl, _⟩ := okWide_struct Try.underlying80 (hval 2 80 v2 rfl rfl)
  have k2 := h2
  have lt2 : ∀ x ∈ p2, x.block < W.heap.size := by obtain ⟨m, hm⟩ := k2; exact DataW.trod_lt m _ _ _ hm
  obtain ⟨x2, q2', s2⟩ := (Go.Sep.Reading.map (d := (Go.Sep.sourceC .bw)) (R := fun s : Go.Sep.Source => s.ths.length < 2 ^ 63 ∧ s.chs.length < 2 ^ 63 ∧ s.tr.length < 2 ^ 63 ∧ (∀ t ∈ s.ths, t.regs.length < 2 ^ 63) ∧ (∀ c ∈ s.chs, c.list.length < 2 ^ 63)) (Go.Sep.read_st Try.underlying80 (by kernel_rfl) (Go.Sep.read_fs rfl (Go.Sep.read_sl Try.underlying77 (by kernel_rfl) (by decide) (Go.Sep.Reading.map (d := (Go.Sep.threadC .bw)) (R := fun c : Go.Sep.Thread => c.regs.length < 2 ^ 63) (Go.Sep.read_st Try.underlying240 (by kernel_rfl) (Go.Sep.read_fs rfl (Go.Sep.read_int Try.underlying3 (by kernel_rfl)) (Go.Sep.read_fs rfl (Go.Sep.read_sl Try.underlying22 (by kernel_rfl) (by decide) (Go.Sep.read_int Try.underlying3 (by kernel_rfl))) (Go.Sep.read_fs rfl (Go.Sep.read_int Try.underlying3 (by kernel_rfl)) (Go.Sep.read_fs0 3))))) (fun x => (⟨x.1, x.2.1, x.2.2.1⟩ : Go.Sep.Thread)) (fun _ => ⟨rfl, rfl⟩) (fun _ => rfl) (fun x q => q.2.1.1))) (Go.Sep.read_fs rfl (Go.Sep.read_sl Try.underlying78 (by kernel_rfl) (by decide) (Go.Sep.Reading.map (d := (Go.Sep.chanC .bw)) (R := fun c : Go.Sep.Chan => c.list.length < 2 ^ 63) (Go.Sep.read_st Try.underlying242 (by kernel_rfl) (Go.Sep.read_fs rfl (Go.Sep.read_int Try.underlying3 (by kernel_rfl)) (Go.Sep.read_fs rfl (Go.Sep.read_sl Try.underlying22 (by kernel_rfl) (by decide) (Go.Sep.read_int Try.underlying3 (by kernel_rfl))) (Go.Sep.read_fs rfl (Go.Sep.read_bool Try.underlying4 (by kernel_rfl)) (Go.Sep.read_fs0 3))))) (fun x => (⟨x.1, x.2.1, x.2.2.1⟩ : Go.Sep.Chan)) (fun _ => ⟨rfl, rfl⟩) (fun _ => rfl) (fun x q => q.2.1.1))) (Go.Sep.read_fs rfl (Go.Sep.read_sl Try.underlying74 (by kernel_rfl) (by decide) (Go.Sep.Reading.map (d := Go.Sep.noteC) (R := fun _ => True) (Go.Sep.read_st Try.underlying247 (by kernel_rfl) (Go.Sep.read_fs rfl (Go.Sep.read_int Try.underlying3 (by kernel_rfl)) (Go.Sep.read_fs rfl (Go.Sep.read_int Try.underlying3 (by kernel_rfl)) (Go.Sep.read_fs0 2)))) (fun x => (⟨x.1, x.2.1⟩ : Go.Sep.Note)) (fun _ => ⟨rfl, rfl⟩) (fun _ => rfl) (fun _ _ => trivial))) (Go.Sep.read_fs0 3))))) (fun x => (⟨x.1, x.2.1, x.2.2.1⟩ : Go.Sep.Source)) (fun _ => ⟨rfl, rfl⟩) (fun _ => rfl) (fun x q => ⟨q.1.1, q.2.1.1, q.2.2.1.1, q.1.2, q.2.1.2⟩)).agg h2
  obtain ⟨_, rfl⟩ := okWide_int Try.underlying3 (hval 3 3 v3 rfl rfl)
  have k3 := h3
  have lt3 : ∀ x ∈ p3, x.block < W.heap.size := by obtain ⟨m, hm⟩ := k3; exact DataW.trod_lt m _ _ _ hm
  obtain ⟨x3, q3', s3⟩ := (Go.Sep.read_int Try.underlying3 (by kernel_rfl)).one rfl h3
  have hc := (Go.Sep.exactCoreSame_ok x0 x1 x2 x3 q0' q1' q2').2 (Go.Sep.entry Go.Sep.num W) (fun _ => []) _ rfl rfl (Go.Sep.entry_ok _ _) (Go.Sep.RVs_one s0 (Go.Sep.RVs_one s1 (Go.Sep.RVs_one s2 (Go.Sep.RVs_one s3 Go.Sep.RVs_zero))))
  refine Calls.mono hc fun e W' he => ?_
  obtain ⟨he, bel⟩ : e = .returned (.bool true) ∧ Below W.heap.size W W' := by
    cases e with
    | returned v => obtain ⟨h1, h2⟩ := Go.Sep.below_of_post he; exact ⟨by rw [h1], h2⟩
    | panicked c => exact he.elim
    | outgrown => exact he.elim
  subst he
  exact ⟨_, rfl, _, _, _, [], _, [], hW', trodAll_mk1 (shut_bool Try.underlying4 _), (trodAll_cons_mk (Below.trod laidOut (by kernel_rfl) (of_decide_eq_true (by kernel_rfl)) k0 bel lt0) (trodAll_cons_mk (Below.trod laidOut (by kernel_rfl) (of_decide_eq_true (by kernel_rfl)) k1 bel lt1) (trodAll_cons_mk (Below.trod laidOut (by kernel_rfl) (of_decide_eq_true (by kernel_rfl)) k2 bel lt2) (trodAll_cons_mk (Below.trod laidOut (by kernel_rfl) (of_decide_eq_true (by kernel_rfl)) k3 bel lt3) trodAll_mk0)))), rfl, bel.frame _, fun h => by cases h⟩
theorem x0 : (Rows.fnExactCoreSameRow.wf (OpenSpec.ofChange Rows.fnExactCoreSameSpec)) = true := by kernel_rfl
theorem x1 : (laidOutB Try.prog) = true := by kernel_rfl
theorem x2 : (mapsRowed Try.prog) = true := by kernel_rfl
theorem x3 : (Try.f7.params.all (Try.prog.readableRec ·)) = true := by kernel_rfl
theorem x4 : (namedTie Try.prog Rows.fnExactCoreSameRow.named Rows.fnExactCoreSameSpec.vars) = true := by kernel_rfl
theorem x5 : ((Rows.fnExactCoreSameRow.stops == [])) = true := by kernel_rfl
theorem x6 : ((Try.prog.stops == [])) = true := by kernel_rfl
theorem x7 : ((Rows.fnExactCoreSameRow.knobs == [])) = true := by kernel_rfl
theorem x8 : ((Try.prog.stopKnobs == [])) = true := by kernel_rfl
theorem x9 : ((Rows.fnExactCoreSameRow.inPlace == Try.prog.inPlace 7)) = true := by kernel_rfl
theorem x10 : ((Rows.fnExactCoreSameRow.unfollowed == Try.prog.unfollowed 7)) = true := by kernel_rfl
theorem x11 : ((Rows.fnExactCoreSameRow.recurses == Try.prog.recurses 7)) = true := by kernel_rfl
theorem x12 : ((Rows.fnExactCoreSameRow.named == Try.prog.varsNamed 7)) = true := by kernel_rfl
theorem x13 : ((Rows.fnExactCoreSameRow.maps == (Try.f7.params.toList ++ Rows.fnExactCoreSameSpec.plain.varTypes Try.prog).any (Try.prog.mapsRec ·))) = true := by kernel_rfl
theorem x14 : ((Rows.fnExactCoreSameRow.ifaces == (Try.f7.params.toList ++ Rows.fnExactCoreSameSpec.plain.varTypes Try.prog).any (Try.prog.ifacesRec ·))) = true := by kernel_rfl
theorem x15 : ((Rows.fnExactCoreSameRow.mapsOut == Try.prog.mapsAmong Try.f7.resultTypes.toList)) = true := by kernel_rfl
theorem x16 : ((Rows.fnExactCoreSameRow.loops == (Try.f7.params.toList ++ Rows.fnExactCoreSameSpec.plain.varTypes Try.prog).any (Try.prog.loopsFrom ·))) = true := by kernel_rfl
theorem x17 : ((Rows.fnExactCoreSameRow.wideKeys == (Try.f7.params.toList ++ Rows.fnExactCoreSameSpec.plain.varTypes Try.prog ++ Try.f7.resultTypes.toList).any (Try.prog.wideKeysFrom ·))) = true := by kernel_rfl
theorem x18 : (Rows.fnExactCoreSameSpec.vars.all (Try.prog.varReadable ·)) = true := by kernel_rfl
theorem x19 : (Try.f7.resultTypes.all (fun t => Try.prog.readableRec t && decide (t < Try.prog.types.size))) = true := by kernel_rfl
theorem x20 : ((Rows.fnExactCoreSameRow.ifacesOut == Try.f7.resultTypes.toList.any (Try.prog.ifacesRec ·))) = true := by kernel_rfl
theorem x21 : ((Rows.fnExactCoreSameRow.loopsOut == Try.f7.resultTypes.toList.any (Try.prog.loopsFrom ·))) = true := by kernel_rfl
theorem x22 : ((Rows.fnExactCoreSameRow.plainKeys == Try.prog.plainKeys)) = true := by kernel_rfl
theorem x23 : (Rows.fnExactCoreSameRow.shortTexts.isNone) = true := by kernel_rfl
theorem x24 : (Try.prog.stopsHeard) = true := by kernel_rfl
theorem x25 : (Try.prog.mayEnter) = true := by kernel_rfl
theorem x26 : ((Rows.fnExactCoreSameRow.lifted == Try.prog.liftsFinal)) = true := by kernel_rfl
theorem x27 : ((Try.prog.make == some Rows.fnExactCoreSameRow.make)) = true := by kernel_rfl
theorem x29 : ((Rows.fnExactCoreSameRow.pinned == Rows.fnExactCoreSameRow.pinnedBy)) = true := by kernel_rfl
theorem x30 : ((Rows.fnExactCoreSameRow.veiled == (Try.f7.params.toList ++ Rows.fnExactCoreSameSpec.plain.varTypes Try.prog ++ Try.f7.resultTypes.toList).any (Try.prog.veiledRec ·))) = true := by kernel_rfl
theorem x31 : (Rows.fnExactCoreSameRow.veiledFits Try.prog Try.f7.params.toList (Try.f7.params.toList ++ Rows.fnExactCoreSameSpec.plain.varTypes Try.prog ++ Try.f7.resultTypes.toList)) = true := by kernel_rfl
set_option maxRecDepth 100000 in
theorem closed : joinedFacts Try.prog 7 Try.f7 Rows.fnExactCoreSameSpec Rows.fnExactCoreSameRow = true := by
  unfold joinedFacts
  rw [x0, x1, x2, x3, x4, x5, x6, x7, x8, x9, x10, x11, x12, x13, x14, x15, x16, x17, x18, x19, x20, x21, x22, x23, x24, x25, x26, x27, x29, x30, x31]
  kernel_rfl
theorem named : Try.prog.funcNamed Rows.fnExactCoreSameRow.func = some 7 := by kernel_rfl
theorem inst : Try.f7.isInstance Try.prog Rows.fnExactCoreSameRow.origin Rows.fnExactCoreSameRow.targs := of_decide_eq_true (by kernel_rfl)
theorem over : Rows.fnExactCoreSameRow.holds Try.pinned (OpenSpec.ofChange Rows.fnExactCoreSameSpec) :=
  OpenClaim.holds_of_wide 7 Try.f7 rfl rfl rfl rfl rfl rfl rfl ⟨rfl, rfl, rfl, rfl, rfl⟩ rfl rfl rfl rfl rfl named Try.func7 closed
    inst (by unfold Func.isWrapper; first | (rw [if_pos (by decide +kernel)]; kernel_rfl) | (rw [if_neg (by decide +kernel)]; exact ⟨rfl, rfl⟩))
    (fun os started H enc _ => lifted os started H enc)
theorem proved : Rows.FnExactCoreSameSaid := over
end Go.Proofs.Ytoijhndfkfliiaa.fnExactCoreSame
namespace Go.Proofs.Ytoijhndfkfliiaa
/-- The row, under a short name, for the claim. -/
theorem fnExactCoreSame_holds : Rows.FnExactCoreSameSaid := fnExactCoreSame.proved
end Go.Proofs.Ytoijhndfkfliiaa
