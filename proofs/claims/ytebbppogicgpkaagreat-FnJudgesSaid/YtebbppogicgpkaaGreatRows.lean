/-
  No cell of these rows narrows 'for every input' (looked for: loops, veiled, ifaces, maps, wideKeys, modest, calm, conditions, laid).
  DERIVED. THE GIVEN ROWS OF THIS SEAT. 11 by the template 'for every input the law returns true; each argument reads behind the call as it read before'; 0 by the template 'total and deterministic' (their statements: YtebbppogicgpkaaGreatTotals.lean).
  GIVEN WITH THE SEED: the statements are not yours to turn. If you find one false, say at which input.
  Laid BY PROGRAM, IN A SANDBOX (cutbox-rows.mjs): the forced cells as the released guide's own fill.sh prints them over the translation db4b7cc85a8d717e… (all of the seat's roots in one cut). By AI agents, Wed Nov 11 2026. No macro, syntax, notation, axiom, sorry.
-/
import Derived.Test.YtebbppogicgpkaaGreatChecked
import GoSem.Claim
import GoSem.ClaimJoined
import GoSem.ClaimMapViews
import Derived.JoinedTies
import Derived.KernelRfl
namespace Go.Proofs.YtebbppogicgpkaaGreat
/- THE CELL 'sum', in the pinned program and in every row, IS THE sha256 OF THE DUMP (.gsa) THAT YtebbppogicgpkaaGreatProg.lean LOADS. Nothing in Lean hashes anything: it is a label: what it is worth is what the hold of that sum in a sandbox is worth. -/
noncomputable def Tryz.pinned : Pinned := { name := "ytebbppogicgpkaagreat", sum := "db4b7cc85a8d717e151025ac50af5581b5a1082bcaab4ed95eeb413275decc93", checked := Tryz.checked }
namespace Rows
def none {H : Type} : Left H := { results := [], args := [] }

/-- 'laws.FnSameState': WHATEVER THE INPUT: true; the input reads as it did. -/
def fnSameStateSpec : ChangeSpec := { name := "fnSameState", fn := fun _ => fun
  | [d] => { results := [.lit (.bool true)], args := [d] }
  | _ => none }
def fnSameStateRow : OpenClaim := { program := "ytebbppogicgpkaagreat", sum := "db4b7cc85a8d717e151025ac50af5581b5a1082bcaab4ed95eeb413275decc93", func := "loop.example/g00238/laws.FnSameState", spec := "fnSameState", apart := false }
def FnSameStateSaid : Prop := fnSameStateRow.holds Tryz.pinned (OpenSpec.ofChange fnSameStateSpec)

/-- ITS FALSE NEIGHBOUR: 'it returns false'. Refute it at one input. -/
def fnSameStateWrong : ChangeSpec := { name := "fnSameState", fn := fun _ => fun
  | [d] => { results := [.lit (.bool false)], args := [d] }
  | _ => none }
def FnSameStateWrongFalsely : Prop := fnSameStateRow.holds Tryz.pinned (OpenSpec.ofChange fnSameStateWrong)

/-- 'laws.FnBothEnds': WHATEVER THE INPUT: true; the input reads as it did. -/
def fnBothEndsSpec : ChangeSpec := { name := "fnBothEnds", fn := fun _ => fun
  | [d] => { results := [.lit (.bool true)], args := [d] }
  | _ => none }
def fnBothEndsRow : OpenClaim := { program := "ytebbppogicgpkaagreat", sum := "db4b7cc85a8d717e151025ac50af5581b5a1082bcaab4ed95eeb413275decc93", func := "loop.example/g00238/laws.FnBothEnds", spec := "fnBothEnds", apart := false }
def FnBothEndsSaid : Prop := fnBothEndsRow.holds Tryz.pinned (OpenSpec.ofChange fnBothEndsSpec)

/-- ITS FALSE NEIGHBOUR: 'it returns false'. Refute it at one input. -/
def fnBothEndsWrong : ChangeSpec := { name := "fnBothEnds", fn := fun _ => fun
  | [d] => { results := [.lit (.bool false)], args := [d] }
  | _ => none }
def FnBothEndsWrongFalsely : Prop := fnBothEndsRow.holds Tryz.pinned (OpenSpec.ofChange fnBothEndsWrong)

/-- 'laws.FnNoLate': WHATEVER THE INPUT: true; the input reads as it did. -/
def fnNoLateSpec : ChangeSpec := { name := "fnNoLate", fn := fun _ => fun
  | [d] => { results := [.lit (.bool true)], args := [d] }
  | _ => none }
def fnNoLateRow : OpenClaim := { program := "ytebbppogicgpkaagreat", sum := "db4b7cc85a8d717e151025ac50af5581b5a1082bcaab4ed95eeb413275decc93", func := "loop.example/g00238/laws.FnNoLate", spec := "fnNoLate", unfollowed := true, recurses := true, apart := false }
def FnNoLateSaid : Prop := fnNoLateRow.holds Tryz.pinned (OpenSpec.ofChange fnNoLateSpec)

/-- ITS FALSE NEIGHBOUR: 'it returns false'. Refute it at one input. -/
def fnNoLateWrong : ChangeSpec := { name := "fnNoLate", fn := fun _ => fun
  | [d] => { results := [.lit (.bool false)], args := [d] }
  | _ => none }
def FnNoLateWrongFalsely : Prop := fnNoLateRow.holds Tryz.pinned (OpenSpec.ofChange fnNoLateWrong)

/-- 'laws.FnAtRest': WHATEVER THE INPUT: true; the input reads as it did. -/
def fnAtRestSpec : ChangeSpec := { name := "fnAtRest", fn := fun _ => fun
  | [d] => { results := [.lit (.bool true)], args := [d] }
  | _ => none }
def fnAtRestRow : OpenClaim := { program := "ytebbppogicgpkaagreat", sum := "db4b7cc85a8d717e151025ac50af5581b5a1082bcaab4ed95eeb413275decc93", func := "loop.example/g00238/laws.FnAtRest", spec := "fnAtRest", apart := false }
def FnAtRestSaid : Prop := fnAtRestRow.holds Tryz.pinned (OpenSpec.ofChange fnAtRestSpec)

/-- ITS FALSE NEIGHBOUR: 'it returns false'. Refute it at one input. -/
def fnAtRestWrong : ChangeSpec := { name := "fnAtRest", fn := fun _ => fun
  | [d] => { results := [.lit (.bool false)], args := [d] }
  | _ => none }
def FnAtRestWrongFalsely : Prop := fnAtRestRow.holds Tryz.pinned (OpenSpec.ofChange fnAtRestWrong)

/-- 'laws.FnWitnessed': WHATEVER THE INPUT: true; the input reads as it did. -/
def fnWitnessedSpec : ChangeSpec := { name := "fnWitnessed", fn := fun _ => fun
  | [d] => { results := [.lit (.bool true)], args := [d] }
  | _ => none }
def fnWitnessedRow : OpenClaim := { program := "ytebbppogicgpkaagreat", sum := "db4b7cc85a8d717e151025ac50af5581b5a1082bcaab4ed95eeb413275decc93", func := "loop.example/g00238/laws.FnWitnessed", spec := "fnWitnessed", apart := false }
def FnWitnessedSaid : Prop := fnWitnessedRow.holds Tryz.pinned (OpenSpec.ofChange fnWitnessedSpec)

/-- ITS FALSE NEIGHBOUR: 'it returns false'. Refute it at one input. -/
def fnWitnessedWrong : ChangeSpec := { name := "fnWitnessed", fn := fun _ => fun
  | [d] => { results := [.lit (.bool false)], args := [d] }
  | _ => none }
def FnWitnessedWrongFalsely : Prop := fnWitnessedRow.holds Tryz.pinned (OpenSpec.ofChange fnWitnessedWrong)

/-- 'laws.FnRested': WHATEVER THE INPUT: true; the input reads as it did. -/
def fnRestedSpec : ChangeSpec := { name := "fnRested", fn := fun _ => fun
  | [d] => { results := [.lit (.bool true)], args := [d] }
  | _ => none }
def fnRestedRow : OpenClaim := { program := "ytebbppogicgpkaagreat", sum := "db4b7cc85a8d717e151025ac50af5581b5a1082bcaab4ed95eeb413275decc93", func := "loop.example/g00238/laws.FnRested", spec := "fnRested", apart := false }
def FnRestedSaid : Prop := fnRestedRow.holds Tryz.pinned (OpenSpec.ofChange fnRestedSpec)

/-- ITS FALSE NEIGHBOUR: 'it returns false'. Refute it at one input. -/
def fnRestedWrong : ChangeSpec := { name := "fnRested", fn := fun _ => fun
  | [d] => { results := [.lit (.bool false)], args := [d] }
  | _ => none }
def FnRestedWrongFalsely : Prop := fnRestedRow.holds Tryz.pinned (OpenSpec.ofChange fnRestedWrong)

/-- 'laws.FnExactJudgeLate': WHATEVER THE INPUT: true; the input reads as it did. -/
def fnExactJudgeLateSpec : ChangeSpec := { name := "fnExactJudgeLate", fn := fun _ => fun
  | [d1, d2] => { results := [.lit (.bool true)], args := [d1, d2] }
  | _ => none }
def fnExactJudgeLateRow : OpenClaim := { program := "ytebbppogicgpkaagreat", sum := "db4b7cc85a8d717e151025ac50af5581b5a1082bcaab4ed95eeb413275decc93", func := "loop.example/g00238/laws.FnExactJudgeLate", spec := "fnExactJudgeLate", unfollowed := true, recurses := true, apart := false }
def FnExactJudgeLateSaid : Prop := fnExactJudgeLateRow.holds Tryz.pinned (OpenSpec.ofChange fnExactJudgeLateSpec)

/-- ITS FALSE NEIGHBOUR: 'it returns false'. Refute it at one input. -/
def fnExactJudgeLateWrong : ChangeSpec := { name := "fnExactJudgeLate", fn := fun _ => fun
  | [d1, d2] => { results := [.lit (.bool false)], args := [d1, d2] }
  | _ => none }
def FnExactJudgeLateWrongFalsely : Prop := fnExactJudgeLateRow.holds Tryz.pinned (OpenSpec.ofChange fnExactJudgeLateWrong)

/-- 'laws.FnWitness': WHATEVER THE INPUT: true; the input reads as it did. -/
def fnWitnessSpec : ChangeSpec := { name := "fnWitness", fn := fun _ => fun
  | [d] => { results := [.lit (.bool true)], args := [d] }
  | _ => none }
def fnWitnessRow : OpenClaim := { program := "ytebbppogicgpkaagreat", sum := "db4b7cc85a8d717e151025ac50af5581b5a1082bcaab4ed95eeb413275decc93", func := "loop.example/g00238/laws.FnWitness", spec := "fnWitness", apart := false }
def FnWitnessSaid : Prop := fnWitnessRow.holds Tryz.pinned (OpenSpec.ofChange fnWitnessSpec)

/-- ITS FALSE NEIGHBOUR: 'it returns false'. Refute it at one input. -/
def fnWitnessWrong : ChangeSpec := { name := "fnWitness", fn := fun _ => fun
  | [d] => { results := [.lit (.bool false)], args := [d] }
  | _ => none }
def FnWitnessWrongFalsely : Prop := fnWitnessRow.holds Tryz.pinned (OpenSpec.ofChange fnWitnessWrong)

/-- 'laws.FnSideBySide': WHATEVER THE INPUT: true; the input reads as it did. -/
def fnSideBySideSpec : ChangeSpec := { name := "fnSideBySide", fn := fun _ => fun
  | [d] => { results := [.lit (.bool true)], args := [d] }
  | _ => none }
def fnSideBySideRow : OpenClaim := { program := "ytebbppogicgpkaagreat", sum := "db4b7cc85a8d717e151025ac50af5581b5a1082bcaab4ed95eeb413275decc93", func := "loop.example/g00238/laws.FnSideBySide", spec := "fnSideBySide", apart := false }
def FnSideBySideSaid : Prop := fnSideBySideRow.holds Tryz.pinned (OpenSpec.ofChange fnSideBySideSpec)

/-- ITS FALSE NEIGHBOUR: 'it returns false'. Refute it at one input. -/
def fnSideBySideWrong : ChangeSpec := { name := "fnSideBySide", fn := fun _ => fun
  | [d] => { results := [.lit (.bool false)], args := [d] }
  | _ => none }
def FnSideBySideWrongFalsely : Prop := fnSideBySideRow.holds Tryz.pinned (OpenSpec.ofChange fnSideBySideWrong)

/-- 'laws.FnJudges': WHATEVER THE INPUT: true; the input reads as it did. -/
def fnJudgesSpec : ChangeSpec := { name := "fnJudges", fn := fun _ => fun
  | [d] => { results := [.lit (.bool true)], args := [d] }
  | _ => none }
def fnJudgesRow : OpenClaim := { program := "ytebbppogicgpkaagreat", sum := "db4b7cc85a8d717e151025ac50af5581b5a1082bcaab4ed95eeb413275decc93", func := "loop.example/g00238/laws.FnJudges", spec := "fnJudges", unfollowed := true, recurses := true, apart := false }
def FnJudgesSaid : Prop := fnJudgesRow.holds Tryz.pinned (OpenSpec.ofChange fnJudgesSpec)

/-- ITS FALSE NEIGHBOUR: 'it returns false'. Refute it at one input. -/
def fnJudgesWrong : ChangeSpec := { name := "fnJudges", fn := fun _ => fun
  | [d] => { results := [.lit (.bool false)], args := [d] }
  | _ => none }
def FnJudgesWrongFalsely : Prop := fnJudgesRow.holds Tryz.pinned (OpenSpec.ofChange fnJudgesWrong)

/-- 'laws.FnExactJudgeAll': WHATEVER THE INPUT: true; the input reads as it did. -/
def fnExactJudgeAllSpec : ChangeSpec := { name := "fnExactJudgeAll", fn := fun _ => fun
  | [d1, d2] => { results := [.lit (.bool true)], args := [d1, d2] }
  | _ => none }
def fnExactJudgeAllRow : OpenClaim := { program := "ytebbppogicgpkaagreat", sum := "db4b7cc85a8d717e151025ac50af5581b5a1082bcaab4ed95eeb413275decc93", func := "loop.example/g00238/laws.FnExactJudgeAll", spec := "fnExactJudgeAll", unfollowed := true, recurses := true, apart := false }
def FnExactJudgeAllSaid : Prop := fnExactJudgeAllRow.holds Tryz.pinned (OpenSpec.ofChange fnExactJudgeAllSpec)

/-- ITS FALSE NEIGHBOUR: 'it returns false'. Refute it at one input. -/
def fnExactJudgeAllWrong : ChangeSpec := { name := "fnExactJudgeAll", fn := fun _ => fun
  | [d1, d2] => { results := [.lit (.bool false)], args := [d1, d2] }
  | _ => none }
def FnExactJudgeAllWrongFalsely : Prop := fnExactJudgeAllRow.holds Tryz.pinned (OpenSpec.ofChange fnExactJudgeAllWrong)

/- THE SECOND FORM. 'bulk': how many values and letters a reading holds, each counted each time it is reached (what is shared counts as often as it is met; a slice's spare places count too). A statement '..UptoSaid' is the law's where the arguments, and the package variables that the reading takes, are together of bulk at most 1048576: NARROWER than '..Said'. Prove '..Said' where nothing that the law and all that it calls make is longer than what came in: it says more and counts as full. Else prove '..UptoSaid'. A law counts once. -/
mutual
def uptoBulk {H : Type} : DataW H → Nat
  | .lit (.string bytes) => bytes.length + 1
  | .lit _ => 1
  | .nil => 1
  | .ptr d => uptoBulk d + 1
  | .slice elems spare => uptoBulkAll elems + uptoBulkAll spare + 1
  | .agg parts => uptoBulkAll parts + 1
  | .iface _ d => uptoBulk d + 1
  | .map entries => uptoBulkEntries entries + 1
  | .held _ => 1
def uptoBulkAll {H : Type} : List (DataW H) → Nat
  | [] => 0
  | d :: r => uptoBulk d + uptoBulkAll r
def uptoBulkEntries {H : Type} : List (Lit × DataW H) → Nat
  | [] => 0
  | x :: r => uptoBulkEntry x + uptoBulkEntries r
def uptoBulkEntry {H : Type} : Lit × DataW H → Nat
  | (.string bytes, d) => bytes.length + uptoBulk d + 1
  | (_, d) => uptoBulk d + 1
 end
def uptoSmall : (H : Type) → List (DataW H) → Bool := fun _ ds => decide (uptoBulkAll ds ≤ 1048576)
def OpenSpec.upto (s : _root_.Go.ChangeSpec) : _root_.Go.OpenSpec := { _root_.Go.OpenSpec.ofChange s with cond := some uptoSmall }

/-- 'laws.FnSameState', WHERE WHAT IT READS IS OF BULK AT MOST 1048576: true; the input reads as it did. -/
def fnSameStateUptoRow : OpenClaim := { program := "ytebbppogicgpkaagreat", sum := "db4b7cc85a8d717e151025ac50af5581b5a1082bcaab4ed95eeb413275decc93", func := "loop.example/g00238/laws.FnSameState", spec := "fnSameState", apart := false, narrowed := true }
def FnSameStateUptoSaid : Prop := fnSameStateUptoRow.holds Tryz.pinned (OpenSpec.upto fnSameStateSpec)

/-- 'laws.FnBothEnds', WHERE WHAT IT READS IS OF BULK AT MOST 1048576: true; the input reads as it did. -/
def fnBothEndsUptoRow : OpenClaim := { program := "ytebbppogicgpkaagreat", sum := "db4b7cc85a8d717e151025ac50af5581b5a1082bcaab4ed95eeb413275decc93", func := "loop.example/g00238/laws.FnBothEnds", spec := "fnBothEnds", apart := false, narrowed := true }
def FnBothEndsUptoSaid : Prop := fnBothEndsUptoRow.holds Tryz.pinned (OpenSpec.upto fnBothEndsSpec)

/-- 'laws.FnNoLate', WHERE WHAT IT READS IS OF BULK AT MOST 1048576: true; the input reads as it did. -/
def fnNoLateUptoRow : OpenClaim := { program := "ytebbppogicgpkaagreat", sum := "db4b7cc85a8d717e151025ac50af5581b5a1082bcaab4ed95eeb413275decc93", func := "loop.example/g00238/laws.FnNoLate", spec := "fnNoLate", unfollowed := true, recurses := true, apart := false, narrowed := true }
def FnNoLateUptoSaid : Prop := fnNoLateUptoRow.holds Tryz.pinned (OpenSpec.upto fnNoLateSpec)

/-- 'laws.FnAtRest', WHERE WHAT IT READS IS OF BULK AT MOST 1048576: true; the input reads as it did. -/
def fnAtRestUptoRow : OpenClaim := { program := "ytebbppogicgpkaagreat", sum := "db4b7cc85a8d717e151025ac50af5581b5a1082bcaab4ed95eeb413275decc93", func := "loop.example/g00238/laws.FnAtRest", spec := "fnAtRest", apart := false, narrowed := true }
def FnAtRestUptoSaid : Prop := fnAtRestUptoRow.holds Tryz.pinned (OpenSpec.upto fnAtRestSpec)

/-- 'laws.FnWitnessed', WHERE WHAT IT READS IS OF BULK AT MOST 1048576: true; the input reads as it did. -/
def fnWitnessedUptoRow : OpenClaim := { program := "ytebbppogicgpkaagreat", sum := "db4b7cc85a8d717e151025ac50af5581b5a1082bcaab4ed95eeb413275decc93", func := "loop.example/g00238/laws.FnWitnessed", spec := "fnWitnessed", apart := false, narrowed := true }
def FnWitnessedUptoSaid : Prop := fnWitnessedUptoRow.holds Tryz.pinned (OpenSpec.upto fnWitnessedSpec)

/-- 'laws.FnRested', WHERE WHAT IT READS IS OF BULK AT MOST 1048576: true; the input reads as it did. -/
def fnRestedUptoRow : OpenClaim := { program := "ytebbppogicgpkaagreat", sum := "db4b7cc85a8d717e151025ac50af5581b5a1082bcaab4ed95eeb413275decc93", func := "loop.example/g00238/laws.FnRested", spec := "fnRested", apart := false, narrowed := true }
def FnRestedUptoSaid : Prop := fnRestedUptoRow.holds Tryz.pinned (OpenSpec.upto fnRestedSpec)

/-- 'laws.FnExactJudgeLate', WHERE WHAT IT READS IS OF BULK AT MOST 1048576: true; the input reads as it did. -/
def fnExactJudgeLateUptoRow : OpenClaim := { program := "ytebbppogicgpkaagreat", sum := "db4b7cc85a8d717e151025ac50af5581b5a1082bcaab4ed95eeb413275decc93", func := "loop.example/g00238/laws.FnExactJudgeLate", spec := "fnExactJudgeLate", unfollowed := true, recurses := true, apart := false, narrowed := true }
def FnExactJudgeLateUptoSaid : Prop := fnExactJudgeLateUptoRow.holds Tryz.pinned (OpenSpec.upto fnExactJudgeLateSpec)

/-- 'laws.FnWitness', WHERE WHAT IT READS IS OF BULK AT MOST 1048576: true; the input reads as it did. -/
def fnWitnessUptoRow : OpenClaim := { program := "ytebbppogicgpkaagreat", sum := "db4b7cc85a8d717e151025ac50af5581b5a1082bcaab4ed95eeb413275decc93", func := "loop.example/g00238/laws.FnWitness", spec := "fnWitness", apart := false, narrowed := true }
def FnWitnessUptoSaid : Prop := fnWitnessUptoRow.holds Tryz.pinned (OpenSpec.upto fnWitnessSpec)

/-- 'laws.FnSideBySide', WHERE WHAT IT READS IS OF BULK AT MOST 1048576: true; the input reads as it did. -/
def fnSideBySideUptoRow : OpenClaim := { program := "ytebbppogicgpkaagreat", sum := "db4b7cc85a8d717e151025ac50af5581b5a1082bcaab4ed95eeb413275decc93", func := "loop.example/g00238/laws.FnSideBySide", spec := "fnSideBySide", apart := false, narrowed := true }
def FnSideBySideUptoSaid : Prop := fnSideBySideUptoRow.holds Tryz.pinned (OpenSpec.upto fnSideBySideSpec)

/-- 'laws.FnJudges', WHERE WHAT IT READS IS OF BULK AT MOST 1048576: true; the input reads as it did. -/
def fnJudgesUptoRow : OpenClaim := { program := "ytebbppogicgpkaagreat", sum := "db4b7cc85a8d717e151025ac50af5581b5a1082bcaab4ed95eeb413275decc93", func := "loop.example/g00238/laws.FnJudges", spec := "fnJudges", unfollowed := true, recurses := true, apart := false, narrowed := true }
def FnJudgesUptoSaid : Prop := fnJudgesUptoRow.holds Tryz.pinned (OpenSpec.upto fnJudgesSpec)

/-- 'laws.FnExactJudgeAll', WHERE WHAT IT READS IS OF BULK AT MOST 1048576: true; the input reads as it did. -/
def fnExactJudgeAllUptoRow : OpenClaim := { program := "ytebbppogicgpkaagreat", sum := "db4b7cc85a8d717e151025ac50af5581b5a1082bcaab4ed95eeb413275decc93", func := "loop.example/g00238/laws.FnExactJudgeAll", spec := "fnExactJudgeAll", unfollowed := true, recurses := true, apart := false, narrowed := true }
def FnExactJudgeAllUptoSaid : Prop := fnExactJudgeAllUptoRow.holds Tryz.pinned (OpenSpec.upto fnExactJudgeAllSpec)

end Rows
end Go.Proofs.YtebbppogicgpkaaGreat
