/-
  No cell of these rows narrows 'for every input' (looked for: loops, veiled, ifaces, maps, wideKeys, modest, calm, conditions, laid).
  DERIVED. THE GIVEN ROWS OF THIS SEAT. 9 by the template 'for every input the law returns true; each argument reads behind the call as it read before'; 0 by the template 'total and deterministic' (their statements: YtjbknbgdfhihcaaGreatTotals.lean).
  GIVEN WITH THE SEED: the statements are not yours to turn. If you find one false, say at which input.
  Laid BY PROGRAM, IN A SANDBOX (cutbox-rows.mjs): the forced cells as the released guide's own fill.sh prints them over the translation 980b8f08ec1d999d… (all of the seat's roots in one cut). By AI agents, Wed Nov 11 2026. No macro, syntax, notation, axiom, sorry.
-/
import Derived.Test.YtjbknbgdfhihcaaGreatChecked
import GoSem.Claim
import GoSem.ClaimJoined
import GoSem.ClaimMapViews
import Derived.JoinedTies
import Derived.KernelRfl
namespace Go.Proofs.YtjbknbgdfhihcaaGreat
/- THE CELL 'sum', in the pinned program and in every row, IS THE sha256 OF THE DUMP (.gsa) THAT YtjbknbgdfhihcaaGreatProg.lean LOADS. Nothing in Lean hashes anything: it is a label: what it is worth is what the hold of that sum in a sandbox is worth. -/
noncomputable def Tryz.pinned : Pinned := { name := "ytjbknbgdfhihcaagreat", sum := "980b8f08ec1d999d5bcf28d3c702d4022f9c26ca0aef03793cf7fa171995207e", checked := Tryz.checked }
namespace Rows
def none {H : Type} : Left H := { results := [], args := [] }

/-- 'laws.FnExactMachineRun': WHATEVER THE INPUT: true; the input reads as it did. -/
def fnExactMachineRunSpec : ChangeSpec := { name := "fnExactMachineRun", fn := fun _ => fun
  | [d1, d2] => { results := [.lit (.bool true)], args := [d1, d2] }
  | _ => none }
def fnExactMachineRunRow : OpenClaim := { program := "ytjbknbgdfhihcaagreat", sum := "980b8f08ec1d999d5bcf28d3c702d4022f9c26ca0aef03793cf7fa171995207e", func := "loop.example/g00238/laws.FnExactMachineRun", spec := "fnExactMachineRun", apart := false }
def FnExactMachineRunSaid : Prop := fnExactMachineRunRow.holds Tryz.pinned (OpenSpec.ofChange fnExactMachineRunSpec)

/-- ITS FALSE NEIGHBOUR: 'it returns false'. Refute it at one input. -/
def fnExactMachineRunWrong : ChangeSpec := { name := "fnExactMachineRun", fn := fun _ => fun
  | [d1, d2] => { results := [.lit (.bool false)], args := [d1, d2] }
  | _ => none }
def FnExactMachineRunWrongFalsely : Prop := fnExactMachineRunRow.holds Tryz.pinned (OpenSpec.ofChange fnExactMachineRunWrong)

/-- 'laws.FnExactLaunch': WHATEVER THE INPUT: true; the input reads as it did. -/
def fnExactLaunchSpec : ChangeSpec := { name := "fnExactLaunch", fn := fun _ => fun
  | [d] => { results := [.lit (.bool true)], args := [d] }
  | _ => none }
def fnExactLaunchRow : OpenClaim := { program := "ytjbknbgdfhihcaagreat", sum := "980b8f08ec1d999d5bcf28d3c702d4022f9c26ca0aef03793cf7fa171995207e", func := "loop.example/g00238/laws.FnExactLaunch", spec := "fnExactLaunch", apart := false }
def FnExactLaunchSaid : Prop := fnExactLaunchRow.holds Tryz.pinned (OpenSpec.ofChange fnExactLaunchSpec)

/-- ITS FALSE NEIGHBOUR: 'it returns false'. Refute it at one input. -/
def fnExactLaunchWrong : ChangeSpec := { name := "fnExactLaunch", fn := fun _ => fun
  | [d] => { results := [.lit (.bool false)], args := [d] }
  | _ => none }
def FnExactLaunchWrongFalsely : Prop := fnExactLaunchRow.holds Tryz.pinned (OpenSpec.ofChange fnExactLaunchWrong)

/-- 'laws.FnExactSame': WHATEVER THE INPUT: true; the input reads as it did. -/
def fnExactSameSpec : ChangeSpec := { name := "fnExactSame", fn := fun _ => fun
  | [d1, d2, d3] => { results := [.lit (.bool true)], args := [d1, d2, d3] }
  | _ => none }
def fnExactSameRow : OpenClaim := { program := "ytjbknbgdfhihcaagreat", sum := "980b8f08ec1d999d5bcf28d3c702d4022f9c26ca0aef03793cf7fa171995207e", func := "loop.example/g00238/laws.FnExactSame", spec := "fnExactSame", apart := false }
def FnExactSameSaid : Prop := fnExactSameRow.holds Tryz.pinned (OpenSpec.ofChange fnExactSameSpec)

/-- ITS FALSE NEIGHBOUR: 'it returns false'. Refute it at one input. -/
def fnExactSameWrong : ChangeSpec := { name := "fnExactSame", fn := fun _ => fun
  | [d1, d2, d3] => { results := [.lit (.bool false)], args := [d1, d2, d3] }
  | _ => none }
def FnExactSameWrongFalsely : Prop := fnExactSameRow.holds Tryz.pinned (OpenSpec.ofChange fnExactSameWrong)

/-- 'laws.FnExactJudgeLocks': WHATEVER THE INPUT: true; the input reads as it did. -/
def fnExactJudgeLocksSpec : ChangeSpec := { name := "fnExactJudgeLocks", fn := fun _ => fun
  | [d1, d2] => { results := [.lit (.bool true)], args := [d1, d2] }
  | _ => none }
def fnExactJudgeLocksRow : OpenClaim := { program := "ytjbknbgdfhihcaagreat", sum := "980b8f08ec1d999d5bcf28d3c702d4022f9c26ca0aef03793cf7fa171995207e", func := "loop.example/g00238/laws.FnExactJudgeLocks", spec := "fnExactJudgeLocks", apart := false }
def FnExactJudgeLocksSaid : Prop := fnExactJudgeLocksRow.holds Tryz.pinned (OpenSpec.ofChange fnExactJudgeLocksSpec)

/-- ITS FALSE NEIGHBOUR: 'it returns false'. Refute it at one input. -/
def fnExactJudgeLocksWrong : ChangeSpec := { name := "fnExactJudgeLocks", fn := fun _ => fun
  | [d1, d2] => { results := [.lit (.bool false)], args := [d1, d2] }
  | _ => none }
def FnExactJudgeLocksWrongFalsely : Prop := fnExactJudgeLocksRow.holds Tryz.pinned (OpenSpec.ofChange fnExactJudgeLocksWrong)

/-- 'laws.FnExactRest': WHATEVER THE INPUT: true; the input reads as it did. -/
def fnExactRestSpec : ChangeSpec := { name := "fnExactRest", fn := fun _ => fun
  | [d1, d2] => { results := [.lit (.bool true)], args := [d1, d2] }
  | _ => none }
def fnExactRestRow : OpenClaim := { program := "ytjbknbgdfhihcaagreat", sum := "980b8f08ec1d999d5bcf28d3c702d4022f9c26ca0aef03793cf7fa171995207e", func := "loop.example/g00238/laws.FnExactRest", spec := "fnExactRest", apart := false }
def FnExactRestSaid : Prop := fnExactRestRow.holds Tryz.pinned (OpenSpec.ofChange fnExactRestSpec)

/-- ITS FALSE NEIGHBOUR: 'it returns false'. Refute it at one input. -/
def fnExactRestWrong : ChangeSpec := { name := "fnExactRest", fn := fun _ => fun
  | [d1, d2] => { results := [.lit (.bool false)], args := [d1, d2] }
  | _ => none }
def FnExactRestWrongFalsely : Prop := fnExactRestRow.holds Tryz.pinned (OpenSpec.ofChange fnExactRestWrong)

/-- 'laws.FnExactFinish': WHATEVER THE INPUT: true; the input reads as it did. -/
def fnExactFinishSpec : ChangeSpec := { name := "fnExactFinish", fn := fun _ => fun
  | [d1, d2, d3] => { results := [.lit (.bool true)], args := [d1, d2, d3] }
  | _ => none }
def fnExactFinishRow : OpenClaim := { program := "ytjbknbgdfhihcaagreat", sum := "980b8f08ec1d999d5bcf28d3c702d4022f9c26ca0aef03793cf7fa171995207e", func := "loop.example/g00238/laws.FnExactFinish", spec := "fnExactFinish", apart := false }
def FnExactFinishSaid : Prop := fnExactFinishRow.holds Tryz.pinned (OpenSpec.ofChange fnExactFinishSpec)

/-- ITS FALSE NEIGHBOUR: 'it returns false'. Refute it at one input. -/
def fnExactFinishWrong : ChangeSpec := { name := "fnExactFinish", fn := fun _ => fun
  | [d1, d2, d3] => { results := [.lit (.bool false)], args := [d1, d2, d3] }
  | _ => none }
def FnExactFinishWrongFalsely : Prop := fnExactFinishRow.holds Tryz.pinned (OpenSpec.ofChange fnExactFinishWrong)

/-- 'laws.FnExactWitness': WHATEVER THE INPUT: true; the input reads as it did. -/
def fnExactWitnessSpec : ChangeSpec := { name := "fnExactWitness", fn := fun _ => fun
  | [d1, d2] => { results := [.lit (.bool true)], args := [d1, d2] }
  | _ => none }
def fnExactWitnessRow : OpenClaim := { program := "ytjbknbgdfhihcaagreat", sum := "980b8f08ec1d999d5bcf28d3c702d4022f9c26ca0aef03793cf7fa171995207e", func := "loop.example/g00238/laws.FnExactWitness", spec := "fnExactWitness", apart := false }
def FnExactWitnessSaid : Prop := fnExactWitnessRow.holds Tryz.pinned (OpenSpec.ofChange fnExactWitnessSpec)

/-- ITS FALSE NEIGHBOUR: 'it returns false'. Refute it at one input. -/
def fnExactWitnessWrong : ChangeSpec := { name := "fnExactWitness", fn := fun _ => fun
  | [d1, d2] => { results := [.lit (.bool false)], args := [d1, d2] }
  | _ => none }
def FnExactWitnessWrongFalsely : Prop := fnExactWitnessRow.holds Tryz.pinned (OpenSpec.ofChange fnExactWitnessWrong)

/-- 'laws.FnExactJudgeTrace': WHATEVER THE INPUT: true; the input reads as it did. -/
def fnExactJudgeTraceSpec : ChangeSpec := { name := "fnExactJudgeTrace", fn := fun _ => fun
  | [d1, d2] => { results := [.lit (.bool true)], args := [d1, d2] }
  | _ => none }
def fnExactJudgeTraceRow : OpenClaim := { program := "ytjbknbgdfhihcaagreat", sum := "980b8f08ec1d999d5bcf28d3c702d4022f9c26ca0aef03793cf7fa171995207e", func := "loop.example/g00238/laws.FnExactJudgeTrace", spec := "fnExactJudgeTrace", apart := false }
def FnExactJudgeTraceSaid : Prop := fnExactJudgeTraceRow.holds Tryz.pinned (OpenSpec.ofChange fnExactJudgeTraceSpec)

/-- ITS FALSE NEIGHBOUR: 'it returns false'. Refute it at one input. -/
def fnExactJudgeTraceWrong : ChangeSpec := { name := "fnExactJudgeTrace", fn := fun _ => fun
  | [d1, d2] => { results := [.lit (.bool false)], args := [d1, d2] }
  | _ => none }
def FnExactJudgeTraceWrongFalsely : Prop := fnExactJudgeTraceRow.holds Tryz.pinned (OpenSpec.ofChange fnExactJudgeTraceWrong)

/-- 'laws.FnExactJudgeSame': WHATEVER THE INPUT: true; the input reads as it did. -/
def fnExactJudgeSameSpec : ChangeSpec := { name := "fnExactJudgeSame", fn := fun _ => fun
  | [d1, d2] => { results := [.lit (.bool true)], args := [d1, d2] }
  | _ => none }
def fnExactJudgeSameRow : OpenClaim := { program := "ytjbknbgdfhihcaagreat", sum := "980b8f08ec1d999d5bcf28d3c702d4022f9c26ca0aef03793cf7fa171995207e", func := "loop.example/g00238/laws.FnExactJudgeSame", spec := "fnExactJudgeSame", apart := false }
def FnExactJudgeSameSaid : Prop := fnExactJudgeSameRow.holds Tryz.pinned (OpenSpec.ofChange fnExactJudgeSameSpec)

/-- ITS FALSE NEIGHBOUR: 'it returns false'. Refute it at one input. -/
def fnExactJudgeSameWrong : ChangeSpec := { name := "fnExactJudgeSame", fn := fun _ => fun
  | [d1, d2] => { results := [.lit (.bool false)], args := [d1, d2] }
  | _ => none }
def FnExactJudgeSameWrongFalsely : Prop := fnExactJudgeSameRow.holds Tryz.pinned (OpenSpec.ofChange fnExactJudgeSameWrong)

/- THE SECOND FORM. 'bulk': how many values and letters a reading holds, each counted each time it is reached (what is shared counts as often as it is met; a slice's spare places count too). A statement '..UptoSaid' is the law's where the arguments, and the package variables that the reading takes, are together of bulk at most 1048576: NARROWER than '..Said'. Prove '..Said' where nothing that the law and all that it calls make is longer than what came in: it says more and counts as full. Else prove '..UptoSaid'. A law counts once. -/
mutual
def uptoBulk {H : Type} : DataW H → Nat
  | .lit (.string bytes) => bytes.length + 1
  | .lit _ => 1
  | .nil => 1
  | .ptr d => uptoBulk d + 1
  | .slice elems spare => uptoBulkAll elems + uptoBulkAll spare + 1
  | .agg parts => uptoBulkAll parts + 1
  | .iface _ d => uptoBulk d + 1
  | .map entries => uptoBulkEntries entries + 1
  | .held _ => 1
def uptoBulkAll {H : Type} : List (DataW H) → Nat
  | [] => 0
  | d :: r => uptoBulk d + uptoBulkAll r
def uptoBulkEntries {H : Type} : List (Lit × DataW H) → Nat
  | [] => 0
  | x :: r => uptoBulkEntry x + uptoBulkEntries r
def uptoBulkEntry {H : Type} : Lit × DataW H → Nat
  | (.string bytes, d) => bytes.length + uptoBulk d + 1
  | (_, d) => uptoBulk d + 1
 end
def uptoSmall : (H : Type) → List (DataW H) → Bool := fun _ ds => decide (uptoBulkAll ds ≤ 1048576)
def OpenSpec.upto (s : _root_.Go.ChangeSpec) : _root_.Go.OpenSpec := { _root_.Go.OpenSpec.ofChange s with cond := some uptoSmall }

/-- 'laws.FnExactMachineRun', WHERE WHAT IT READS IS OF BULK AT MOST 1048576: true; the input reads as it did. -/
def fnExactMachineRunUptoRow : OpenClaim := { program := "ytjbknbgdfhihcaagreat", sum := "980b8f08ec1d999d5bcf28d3c702d4022f9c26ca0aef03793cf7fa171995207e", func := "loop.example/g00238/laws.FnExactMachineRun", spec := "fnExactMachineRun", apart := false, narrowed := true }
def FnExactMachineRunUptoSaid : Prop := fnExactMachineRunUptoRow.holds Tryz.pinned (OpenSpec.upto fnExactMachineRunSpec)

/-- 'laws.FnExactLaunch', WHERE WHAT IT READS IS OF BULK AT MOST 1048576: true; the input reads as it did. -/
def fnExactLaunchUptoRow : OpenClaim := { program := "ytjbknbgdfhihcaagreat", sum := "980b8f08ec1d999d5bcf28d3c702d4022f9c26ca0aef03793cf7fa171995207e", func := "loop.example/g00238/laws.FnExactLaunch", spec := "fnExactLaunch", apart := false, narrowed := true }
def FnExactLaunchUptoSaid : Prop := fnExactLaunchUptoRow.holds Tryz.pinned (OpenSpec.upto fnExactLaunchSpec)

/-- 'laws.FnExactSame', WHERE WHAT IT READS IS OF BULK AT MOST 1048576: true; the input reads as it did. -/
def fnExactSameUptoRow : OpenClaim := { program := "ytjbknbgdfhihcaagreat", sum := "980b8f08ec1d999d5bcf28d3c702d4022f9c26ca0aef03793cf7fa171995207e", func := "loop.example/g00238/laws.FnExactSame", spec := "fnExactSame", apart := false, narrowed := true }
def FnExactSameUptoSaid : Prop := fnExactSameUptoRow.holds Tryz.pinned (OpenSpec.upto fnExactSameSpec)

/-- 'laws.FnExactJudgeLocks', WHERE WHAT IT READS IS OF BULK AT MOST 1048576: true; the input reads as it did. -/
def fnExactJudgeLocksUptoRow : OpenClaim := { program := "ytjbknbgdfhihcaagreat", sum := "980b8f08ec1d999d5bcf28d3c702d4022f9c26ca0aef03793cf7fa171995207e", func := "loop.example/g00238/laws.FnExactJudgeLocks", spec := "fnExactJudgeLocks", apart := false, narrowed := true }
def FnExactJudgeLocksUptoSaid : Prop := fnExactJudgeLocksUptoRow.holds Tryz.pinned (OpenSpec.upto fnExactJudgeLocksSpec)

/-- 'laws.FnExactRest', WHERE WHAT IT READS IS OF BULK AT MOST 1048576: true; the input reads as it did. -/
def fnExactRestUptoRow : OpenClaim := { program := "ytjbknbgdfhihcaagreat", sum := "980b8f08ec1d999d5bcf28d3c702d4022f9c26ca0aef03793cf7fa171995207e", func := "loop.example/g00238/laws.FnExactRest", spec := "fnExactRest", apart := false, narrowed := true }
def FnExactRestUptoSaid : Prop := fnExactRestUptoRow.holds Tryz.pinned (OpenSpec.upto fnExactRestSpec)

/-- 'laws.FnExactFinish', WHERE WHAT IT READS IS OF BULK AT MOST 1048576: true; the input reads as it did. -/
def fnExactFinishUptoRow : OpenClaim := { program := "ytjbknbgdfhihcaagreat", sum := "980b8f08ec1d999d5bcf28d3c702d4022f9c26ca0aef03793cf7fa171995207e", func := "loop.example/g00238/laws.FnExactFinish", spec := "fnExactFinish", apart := false, narrowed := true }
def FnExactFinishUptoSaid : Prop := fnExactFinishUptoRow.holds Tryz.pinned (OpenSpec.upto fnExactFinishSpec)

/-- 'laws.FnExactWitness', WHERE WHAT IT READS IS OF BULK AT MOST 1048576: true; the input reads as it did. -/
def fnExactWitnessUptoRow : OpenClaim := { program := "ytjbknbgdfhihcaagreat", sum := "980b8f08ec1d999d5bcf28d3c702d4022f9c26ca0aef03793cf7fa171995207e", func := "loop.example/g00238/laws.FnExactWitness", spec := "fnExactWitness", apart := false, narrowed := true }
def FnExactWitnessUptoSaid : Prop := fnExactWitnessUptoRow.holds Tryz.pinned (OpenSpec.upto fnExactWitnessSpec)

/-- 'laws.FnExactJudgeTrace', WHERE WHAT IT READS IS OF BULK AT MOST 1048576: true; the input reads as it did. -/
def fnExactJudgeTraceUptoRow : OpenClaim := { program := "ytjbknbgdfhihcaagreat", sum := "980b8f08ec1d999d5bcf28d3c702d4022f9c26ca0aef03793cf7fa171995207e", func := "loop.example/g00238/laws.FnExactJudgeTrace", spec := "fnExactJudgeTrace", apart := false, narrowed := true }
def FnExactJudgeTraceUptoSaid : Prop := fnExactJudgeTraceUptoRow.holds Tryz.pinned (OpenSpec.upto fnExactJudgeTraceSpec)

/-- 'laws.FnExactJudgeSame', WHERE WHAT IT READS IS OF BULK AT MOST 1048576: true; the input reads as it did. -/
def fnExactJudgeSameUptoRow : OpenClaim := { program := "ytjbknbgdfhihcaagreat", sum := "980b8f08ec1d999d5bcf28d3c702d4022f9c26ca0aef03793cf7fa171995207e", func := "loop.example/g00238/laws.FnExactJudgeSame", spec := "fnExactJudgeSame", apart := false, narrowed := true }
def FnExactJudgeSameUptoSaid : Prop := fnExactJudgeSameUptoRow.holds Tryz.pinned (OpenSpec.upto fnExactJudgeSameSpec)

end Rows
end Go.Proofs.YtjbknbgdfhihcaaGreat
