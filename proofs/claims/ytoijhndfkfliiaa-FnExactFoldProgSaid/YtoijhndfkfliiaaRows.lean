/-
  No cell of these rows narrows 'for every input' (looked for: loops, veiled, ifaces, maps, wideKeys, modest, calm, conditions, laid).
  DERIVED. THE GIVEN ROWS OF THIS SEAT. 12 by the template 'for every input the law returns true; each argument reads behind the call as it read before'; 0 by the template 'total and deterministic' (their statements: YtoijhndfkfliiaaTotals.lean).
  GIVEN WITH THE SEED: the statements are not yours to turn. If you find one false, say at which input.
  Laid BY PROGRAM, IN A SANDBOX (cutbox-rows.mjs): the forced cells as the released guide's own fill.sh prints them over the translation 60753f5c3ab672dc… (all of the seat's roots in one cut). By AI agents, Wed Nov 11 2026. No macro, syntax, notation, axiom, sorry.
-/
import Derived.Test.YtoijhndfkfliiaaChecked
import GoSem.Claim
import GoSem.ClaimJoined
import GoSem.ClaimMapViews
import Derived.JoinedTies
import Derived.KernelRfl
namespace Go.Proofs.Ytoijhndfkfliiaa
/- THE CELL 'sum', in the pinned program and in every row, IS THE sha256 OF THE DUMP (.gsa) THAT YtoijhndfkfliiaaProg.lean LOADS. Nothing in Lean hashes anything: it is a label: what it is worth is what the hold of that sum in a sandbox is worth. -/
noncomputable def Try.pinned : Pinned := { name := "ytoijhndfkfliiaa", sum := "60753f5c3ab672dcc3b2af9e21734a825ddff2af92d88aadb815ffba2787245e", checked := Try.checked }
namespace Rows
def none {H : Type} : Left H := { results := [], args := [] }

/-- 'laws.FnExactSourceOf': WHATEVER THE INPUT: true; the input reads as it did. -/
def fnExactSourceOfSpec : ChangeSpec := { name := "fnExactSourceOf", fn := fun _ => fun
  | [d1, d2] => { results := [.lit (.bool true)], args := [d1, d2] }
  | _ => none }
def fnExactSourceOfRow : OpenClaim := { program := "ytoijhndfkfliiaa", sum := "60753f5c3ab672dcc3b2af9e21734a825ddff2af92d88aadb815ffba2787245e", func := "loop.example/g00238/laws.FnExactSourceOf", spec := "fnExactSourceOf", apart := false }
def FnExactSourceOfSaid : Prop := fnExactSourceOfRow.holds Try.pinned (OpenSpec.ofChange fnExactSourceOfSpec)

/-- ITS FALSE NEIGHBOUR: 'it returns false'. Refute it at one input. -/
def fnExactSourceOfWrong : ChangeSpec := { name := "fnExactSourceOf", fn := fun _ => fun
  | [d1, d2] => { results := [.lit (.bool false)], args := [d1, d2] }
  | _ => none }
def FnExactSourceOfWrongFalsely : Prop := fnExactSourceOfRow.holds Try.pinned (OpenSpec.ofChange fnExactSourceOfWrong)

/-- 'laws.FnPacked': WHATEVER THE INPUT: true; the input reads as it did. -/
def fnPackedSpec : ChangeSpec := { name := "fnPacked", fn := fun _ => fun
  | [d] => { results := [.lit (.bool true)], args := [d] }
  | _ => none }
def fnPackedRow : OpenClaim := { program := "ytoijhndfkfliiaa", sum := "60753f5c3ab672dcc3b2af9e21734a825ddff2af92d88aadb815ffba2787245e", func := "loop.example/g00238/laws.FnPacked", spec := "fnPacked", unfollowed := true, recurses := true, apart := false }
def FnPackedSaid : Prop := fnPackedRow.holds Try.pinned (OpenSpec.ofChange fnPackedSpec)

/-- ITS FALSE NEIGHBOUR: 'it returns false'. Refute it at one input. -/
def fnPackedWrong : ChangeSpec := { name := "fnPacked", fn := fun _ => fun
  | [d] => { results := [.lit (.bool false)], args := [d] }
  | _ => none }
def FnPackedWrongFalsely : Prop := fnPackedRow.holds Try.pinned (OpenSpec.ofChange fnPackedWrong)

/-- 'laws.FnExactCompile': WHATEVER THE INPUT: true; the input reads as it did. -/
def fnExactCompileSpec : ChangeSpec := { name := "fnExactCompile", fn := fun _ => fun
  | [d] => { results := [.lit (.bool true)], args := [d] }
  | _ => none }
def fnExactCompileRow : OpenClaim := { program := "ytoijhndfkfliiaa", sum := "60753f5c3ab672dcc3b2af9e21734a825ddff2af92d88aadb815ffba2787245e", func := "loop.example/g00238/laws.FnExactCompile", spec := "fnExactCompile", apart := false }
def FnExactCompileSaid : Prop := fnExactCompileRow.holds Try.pinned (OpenSpec.ofChange fnExactCompileSpec)

/-- ITS FALSE NEIGHBOUR: 'it returns false'. Refute it at one input. -/
def fnExactCompileWrong : ChangeSpec := { name := "fnExactCompile", fn := fun _ => fun
  | [d] => { results := [.lit (.bool false)], args := [d] }
  | _ => none }
def FnExactCompileWrongFalsely : Prop := fnExactCompileRow.holds Try.pinned (OpenSpec.ofChange fnExactCompileWrong)

/-- 'laws.FnTrimmedLive': WHATEVER THE INPUT: true; the input reads as it did. -/
def fnTrimmedLiveSpec : ChangeSpec := { name := "fnTrimmedLive", fn := fun _ => fun
  | [d] => { results := [.lit (.bool true)], args := [d] }
  | _ => none }
def fnTrimmedLiveRow : OpenClaim := { program := "ytoijhndfkfliiaa", sum := "60753f5c3ab672dcc3b2af9e21734a825ddff2af92d88aadb815ffba2787245e", func := "loop.example/g00238/laws.FnTrimmedLive", spec := "fnTrimmedLive", unfollowed := true, recurses := true, apart := false }
def FnTrimmedLiveSaid : Prop := fnTrimmedLiveRow.holds Try.pinned (OpenSpec.ofChange fnTrimmedLiveSpec)

/-- ITS FALSE NEIGHBOUR: 'it returns false'. Refute it at one input. -/
def fnTrimmedLiveWrong : ChangeSpec := { name := "fnTrimmedLive", fn := fun _ => fun
  | [d] => { results := [.lit (.bool false)], args := [d] }
  | _ => none }
def FnTrimmedLiveWrongFalsely : Prop := fnTrimmedLiveRow.holds Try.pinned (OpenSpec.ofChange fnTrimmedLiveWrong)

/-- 'laws.FnExactCoreSame': WHATEVER THE INPUT: true; the input reads as it did. -/
def fnExactCoreSameSpec : ChangeSpec := { name := "fnExactCoreSame", fn := fun _ => fun
  | [d1, d2, d3, d4] => { results := [.lit (.bool true)], args := [d1, d2, d3, d4] }
  | _ => none }
def fnExactCoreSameRow : OpenClaim := { program := "ytoijhndfkfliiaa", sum := "60753f5c3ab672dcc3b2af9e21734a825ddff2af92d88aadb815ffba2787245e", func := "loop.example/g00238/laws.FnExactCoreSame", spec := "fnExactCoreSame", apart := false }
def FnExactCoreSameSaid : Prop := fnExactCoreSameRow.holds Try.pinned (OpenSpec.ofChange fnExactCoreSameSpec)

/-- ITS FALSE NEIGHBOUR: 'it returns false'. Refute it at one input. -/
def fnExactCoreSameWrong : ChangeSpec := { name := "fnExactCoreSame", fn := fun _ => fun
  | [d1, d2, d3, d4] => { results := [.lit (.bool false)], args := [d1, d2, d3, d4] }
  | _ => none }
def FnExactCoreSameWrongFalsely : Prop := fnExactCoreSameRow.holds Try.pinned (OpenSpec.ofChange fnExactCoreSameWrong)

/-- 'laws.FnExactCommits': WHATEVER THE INPUT: true; the input reads as it did. -/
def fnExactCommitsSpec : ChangeSpec := { name := "fnExactCommits", fn := fun _ => fun
  | [d1, d2, d3, d4] => { results := [.lit (.bool true)], args := [d1, d2, d3, d4] }
  | _ => none }
def fnExactCommitsRow : OpenClaim := { program := "ytoijhndfkfliiaa", sum := "60753f5c3ab672dcc3b2af9e21734a825ddff2af92d88aadb815ffba2787245e", func := "loop.example/g00238/laws.FnExactCommits", spec := "fnExactCommits", apart := false }
def FnExactCommitsSaid : Prop := fnExactCommitsRow.holds Try.pinned (OpenSpec.ofChange fnExactCommitsSpec)

/-- ITS FALSE NEIGHBOUR: 'it returns false'. Refute it at one input. -/
def fnExactCommitsWrong : ChangeSpec := { name := "fnExactCommits", fn := fun _ => fun
  | [d1, d2, d3, d4] => { results := [.lit (.bool false)], args := [d1, d2, d3, d4] }
  | _ => none }
def FnExactCommitsWrongFalsely : Prop := fnExactCommitsRow.holds Try.pinned (OpenSpec.ofChange fnExactCommitsWrong)

/-- 'laws.FnResumed': WHATEVER THE INPUT: true; the input reads as it did. -/
def fnResumedSpec : ChangeSpec := { name := "fnResumed", fn := fun _ => fun
  | [d] => { results := [.lit (.bool true)], args := [d] }
  | _ => none }
def fnResumedRow : OpenClaim := { program := "ytoijhndfkfliiaa", sum := "60753f5c3ab672dcc3b2af9e21734a825ddff2af92d88aadb815ffba2787245e", func := "loop.example/g00238/laws.FnResumed", spec := "fnResumed", apart := false }
def FnResumedSaid : Prop := fnResumedRow.holds Try.pinned (OpenSpec.ofChange fnResumedSpec)

/-- ITS FALSE NEIGHBOUR: 'it returns false'. Refute it at one input. -/
def fnResumedWrong : ChangeSpec := { name := "fnResumed", fn := fun _ => fun
  | [d] => { results := [.lit (.bool false)], args := [d] }
  | _ => none }
def FnResumedWrongFalsely : Prop := fnResumedRow.holds Try.pinned (OpenSpec.ofChange fnResumedWrong)

/-- 'laws.FnExactSourceStep': WHATEVER THE INPUT: true; the input reads as it did. -/
def fnExactSourceStepSpec : ChangeSpec := { name := "fnExactSourceStep", fn := fun _ => fun
  | [d1, d2, d3] => { results := [.lit (.bool true)], args := [d1, d2, d3] }
  | _ => none }
def fnExactSourceStepRow : OpenClaim := { program := "ytoijhndfkfliiaa", sum := "60753f5c3ab672dcc3b2af9e21734a825ddff2af92d88aadb815ffba2787245e", func := "loop.example/g00238/laws.FnExactSourceStep", spec := "fnExactSourceStep", apart := false }
def FnExactSourceStepSaid : Prop := fnExactSourceStepRow.holds Try.pinned (OpenSpec.ofChange fnExactSourceStepSpec)

/-- ITS FALSE NEIGHBOUR: 'it returns false'. Refute it at one input. -/
def fnExactSourceStepWrong : ChangeSpec := { name := "fnExactSourceStep", fn := fun _ => fun
  | [d1, d2, d3] => { results := [.lit (.bool false)], args := [d1, d2, d3] }
  | _ => none }
def FnExactSourceStepWrongFalsely : Prop := fnExactSourceStepRow.holds Try.pinned (OpenSpec.ofChange fnExactSourceStepWrong)

/-- 'laws.FnExactResume': WHATEVER THE INPUT: true; the input reads as it did. -/
def fnExactResumeSpec : ChangeSpec := { name := "fnExactResume", fn := fun _ => fun
  | [d1, d2, d3] => { results := [.lit (.bool true)], args := [d1, d2, d3] }
  | _ => none }
def fnExactResumeRow : OpenClaim := { program := "ytoijhndfkfliiaa", sum := "60753f5c3ab672dcc3b2af9e21734a825ddff2af92d88aadb815ffba2787245e", func := "loop.example/g00238/laws.FnExactResume", spec := "fnExactResume", apart := false }
def FnExactResumeSaid : Prop := fnExactResumeRow.holds Try.pinned (OpenSpec.ofChange fnExactResumeSpec)

/-- ITS FALSE NEIGHBOUR: 'it returns false'. Refute it at one input. -/
def fnExactResumeWrong : ChangeSpec := { name := "fnExactResume", fn := fun _ => fun
  | [d1, d2, d3] => { results := [.lit (.bool false)], args := [d1, d2, d3] }
  | _ => none }
def FnExactResumeWrongFalsely : Prop := fnExactResumeRow.holds Try.pinned (OpenSpec.ofChange fnExactResumeWrong)

/-- 'laws.FnExactSourceRun': WHATEVER THE INPUT: true; the input reads as it did. -/
def fnExactSourceRunSpec : ChangeSpec := { name := "fnExactSourceRun", fn := fun _ => fun
  | [d1, d2, d3] => { results := [.lit (.bool true)], args := [d1, d2, d3] }
  | _ => none }
def fnExactSourceRunRow : OpenClaim := { program := "ytoijhndfkfliiaa", sum := "60753f5c3ab672dcc3b2af9e21734a825ddff2af92d88aadb815ffba2787245e", func := "loop.example/g00238/laws.FnExactSourceRun", spec := "fnExactSourceRun", apart := false }
def FnExactSourceRunSaid : Prop := fnExactSourceRunRow.holds Try.pinned (OpenSpec.ofChange fnExactSourceRunSpec)

/-- ITS FALSE NEIGHBOUR: 'it returns false'. Refute it at one input. -/
def fnExactSourceRunWrong : ChangeSpec := { name := "fnExactSourceRun", fn := fun _ => fun
  | [d1, d2, d3] => { results := [.lit (.bool false)], args := [d1, d2, d3] }
  | _ => none }
def FnExactSourceRunWrongFalsely : Prop := fnExactSourceRunRow.holds Try.pinned (OpenSpec.ofChange fnExactSourceRunWrong)

/-- 'laws.FnExactFair': WHATEVER THE INPUT: true; the input reads as it did. -/
def fnExactFairSpec : ChangeSpec := { name := "fnExactFair", fn := fun _ => fun
  | [d1, d2, d3] => { results := [.lit (.bool true)], args := [d1, d2, d3] }
  | _ => none }
def fnExactFairRow : OpenClaim := { program := "ytoijhndfkfliiaa", sum := "60753f5c3ab672dcc3b2af9e21734a825ddff2af92d88aadb815ffba2787245e", func := "loop.example/g00238/laws.FnExactFair", spec := "fnExactFair", apart := false }
def FnExactFairSaid : Prop := fnExactFairRow.holds Try.pinned (OpenSpec.ofChange fnExactFairSpec)

/-- ITS FALSE NEIGHBOUR: 'it returns false'. Refute it at one input. -/
def fnExactFairWrong : ChangeSpec := { name := "fnExactFair", fn := fun _ => fun
  | [d1, d2, d3] => { results := [.lit (.bool false)], args := [d1, d2, d3] }
  | _ => none }
def FnExactFairWrongFalsely : Prop := fnExactFairRow.holds Try.pinned (OpenSpec.ofChange fnExactFairWrong)

/-- 'laws.FnExactFoldProg': WHATEVER THE INPUT: true; the input reads as it did. -/
def fnExactFoldProgSpec : ChangeSpec := { name := "fnExactFoldProg", fn := fun _ => fun
  | [d] => { results := [.lit (.bool true)], args := [d] }
  | _ => none }
def fnExactFoldProgRow : OpenClaim := { program := "ytoijhndfkfliiaa", sum := "60753f5c3ab672dcc3b2af9e21734a825ddff2af92d88aadb815ffba2787245e", func := "loop.example/g00238/laws.FnExactFoldProg", spec := "fnExactFoldProg", unfollowed := true, recurses := true, apart := false }
def FnExactFoldProgSaid : Prop := fnExactFoldProgRow.holds Try.pinned (OpenSpec.ofChange fnExactFoldProgSpec)

/-- ITS FALSE NEIGHBOUR: 'it returns false'. Refute it at one input. -/
def fnExactFoldProgWrong : ChangeSpec := { name := "fnExactFoldProg", fn := fun _ => fun
  | [d] => { results := [.lit (.bool false)], args := [d] }
  | _ => none }
def FnExactFoldProgWrongFalsely : Prop := fnExactFoldProgRow.holds Try.pinned (OpenSpec.ofChange fnExactFoldProgWrong)

/- THE SECOND FORM. 'bulk': how many values and letters a reading holds, each counted each time it is reached (what is shared counts as often as it is met; a slice's spare places count too). A statement '..UptoSaid' is the law's where the arguments, and the package variables that the reading takes, are together of bulk at most 1048576: NARROWER than '..Said'. Prove '..Said' where nothing that the law and all that it calls make is longer than what came in: it says more and counts as full. Else prove '..UptoSaid'. A law counts once. -/
mutual
def uptoBulk {H : Type} : DataW H → Nat
  | .lit (.string bytes) => bytes.length + 1
  | .lit _ => 1
  | .nil => 1
  | .ptr d => uptoBulk d + 1
  | .slice elems spare => uptoBulkAll elems + uptoBulkAll spare + 1
  | .agg parts => uptoBulkAll parts + 1
  | .iface _ d => uptoBulk d + 1
  | .map entries => uptoBulkEntries entries + 1
  | .held _ => 1
def uptoBulkAll {H : Type} : List (DataW H) → Nat
  | [] => 0
  | d :: r => uptoBulk d + uptoBulkAll r
def uptoBulkEntries {H : Type} : List (Lit × DataW H) → Nat
  | [] => 0
  | x :: r => uptoBulkEntry x + uptoBulkEntries r
def uptoBulkEntry {H : Type} : Lit × DataW H → Nat
  | (.string bytes, d) => bytes.length + uptoBulk d + 1
  | (_, d) => uptoBulk d + 1
 end
def uptoSmall : (H : Type) → List (DataW H) → Bool := fun _ ds => decide (uptoBulkAll ds ≤ 1048576)
def OpenSpec.upto (s : _root_.Go.ChangeSpec) : _root_.Go.OpenSpec := { _root_.Go.OpenSpec.ofChange s with cond := some uptoSmall }

/-- 'laws.FnExactSourceOf', WHERE WHAT IT READS IS OF BULK AT MOST 1048576: true; the input reads as it did. -/
def fnExactSourceOfUptoRow : OpenClaim := { program := "ytoijhndfkfliiaa", sum := "60753f5c3ab672dcc3b2af9e21734a825ddff2af92d88aadb815ffba2787245e", func := "loop.example/g00238/laws.FnExactSourceOf", spec := "fnExactSourceOf", apart := false, narrowed := true }
def FnExactSourceOfUptoSaid : Prop := fnExactSourceOfUptoRow.holds Try.pinned (OpenSpec.upto fnExactSourceOfSpec)

/-- 'laws.FnPacked', WHERE WHAT IT READS IS OF BULK AT MOST 1048576: true; the input reads as it did. -/
def fnPackedUptoRow : OpenClaim := { program := "ytoijhndfkfliiaa", sum := "60753f5c3ab672dcc3b2af9e21734a825ddff2af92d88aadb815ffba2787245e", func := "loop.example/g00238/laws.FnPacked", spec := "fnPacked", unfollowed := true, recurses := true, apart := false, narrowed := true }
def FnPackedUptoSaid : Prop := fnPackedUptoRow.holds Try.pinned (OpenSpec.upto fnPackedSpec)

/-- 'laws.FnExactCompile', WHERE WHAT IT READS IS OF BULK AT MOST 1048576: true; the input reads as it did. -/
def fnExactCompileUptoRow : OpenClaim := { program := "ytoijhndfkfliiaa", sum := "60753f5c3ab672dcc3b2af9e21734a825ddff2af92d88aadb815ffba2787245e", func := "loop.example/g00238/laws.FnExactCompile", spec := "fnExactCompile", apart := false, narrowed := true }
def FnExactCompileUptoSaid : Prop := fnExactCompileUptoRow.holds Try.pinned (OpenSpec.upto fnExactCompileSpec)

/-- 'laws.FnTrimmedLive', WHERE WHAT IT READS IS OF BULK AT MOST 1048576: true; the input reads as it did. -/
def fnTrimmedLiveUptoRow : OpenClaim := { program := "ytoijhndfkfliiaa", sum := "60753f5c3ab672dcc3b2af9e21734a825ddff2af92d88aadb815ffba2787245e", func := "loop.example/g00238/laws.FnTrimmedLive", spec := "fnTrimmedLive", unfollowed := true, recurses := true, apart := false, narrowed := true }
def FnTrimmedLiveUptoSaid : Prop := fnTrimmedLiveUptoRow.holds Try.pinned (OpenSpec.upto fnTrimmedLiveSpec)

/-- 'laws.FnExactCoreSame', WHERE WHAT IT READS IS OF BULK AT MOST 1048576: true; the input reads as it did. -/
def fnExactCoreSameUptoRow : OpenClaim := { program := "ytoijhndfkfliiaa", sum := "60753f5c3ab672dcc3b2af9e21734a825ddff2af92d88aadb815ffba2787245e", func := "loop.example/g00238/laws.FnExactCoreSame", spec := "fnExactCoreSame", apart := false, narrowed := true }
def FnExactCoreSameUptoSaid : Prop := fnExactCoreSameUptoRow.holds Try.pinned (OpenSpec.upto fnExactCoreSameSpec)

/-- 'laws.FnExactCommits', WHERE WHAT IT READS IS OF BULK AT MOST 1048576: true; the input reads as it did. -/
def fnExactCommitsUptoRow : OpenClaim := { program := "ytoijhndfkfliiaa", sum := "60753f5c3ab672dcc3b2af9e21734a825ddff2af92d88aadb815ffba2787245e", func := "loop.example/g00238/laws.FnExactCommits", spec := "fnExactCommits", apart := false, narrowed := true }
def FnExactCommitsUptoSaid : Prop := fnExactCommitsUptoRow.holds Try.pinned (OpenSpec.upto fnExactCommitsSpec)

/-- 'laws.FnResumed', WHERE WHAT IT READS IS OF BULK AT MOST 1048576: true; the input reads as it did. -/
def fnResumedUptoRow : OpenClaim := { program := "ytoijhndfkfliiaa", sum := "60753f5c3ab672dcc3b2af9e21734a825ddff2af92d88aadb815ffba2787245e", func := "loop.example/g00238/laws.FnResumed", spec := "fnResumed", apart := false, narrowed := true }
def FnResumedUptoSaid : Prop := fnResumedUptoRow.holds Try.pinned (OpenSpec.upto fnResumedSpec)

/-- 'laws.FnExactSourceStep', WHERE WHAT IT READS IS OF BULK AT MOST 1048576: true; the input reads as it did. -/
def fnExactSourceStepUptoRow : OpenClaim := { program := "ytoijhndfkfliiaa", sum := "60753f5c3ab672dcc3b2af9e21734a825ddff2af92d88aadb815ffba2787245e", func := "loop.example/g00238/laws.FnExactSourceStep", spec := "fnExactSourceStep", apart := false, narrowed := true }
def FnExactSourceStepUptoSaid : Prop := fnExactSourceStepUptoRow.holds Try.pinned (OpenSpec.upto fnExactSourceStepSpec)

/-- 'laws.FnExactResume', WHERE WHAT IT READS IS OF BULK AT MOST 1048576: true; the input reads as it did. -/
def fnExactResumeUptoRow : OpenClaim := { program := "ytoijhndfkfliiaa", sum := "60753f5c3ab672dcc3b2af9e21734a825ddff2af92d88aadb815ffba2787245e", func := "loop.example/g00238/laws.FnExactResume", spec := "fnExactResume", apart := false, narrowed := true }
def FnExactResumeUptoSaid : Prop := fnExactResumeUptoRow.holds Try.pinned (OpenSpec.upto fnExactResumeSpec)

/-- 'laws.FnExactSourceRun', WHERE WHAT IT READS IS OF BULK AT MOST 1048576: true; the input reads as it did. -/
def fnExactSourceRunUptoRow : OpenClaim := { program := "ytoijhndfkfliiaa", sum := "60753f5c3ab672dcc3b2af9e21734a825ddff2af92d88aadb815ffba2787245e", func := "loop.example/g00238/laws.FnExactSourceRun", spec := "fnExactSourceRun", apart := false, narrowed := true }
def FnExactSourceRunUptoSaid : Prop := fnExactSourceRunUptoRow.holds Try.pinned (OpenSpec.upto fnExactSourceRunSpec)

/-- 'laws.FnExactFair', WHERE WHAT IT READS IS OF BULK AT MOST 1048576: true; the input reads as it did. -/
def fnExactFairUptoRow : OpenClaim := { program := "ytoijhndfkfliiaa", sum := "60753f5c3ab672dcc3b2af9e21734a825ddff2af92d88aadb815ffba2787245e", func := "loop.example/g00238/laws.FnExactFair", spec := "fnExactFair", apart := false, narrowed := true }
def FnExactFairUptoSaid : Prop := fnExactFairUptoRow.holds Try.pinned (OpenSpec.upto fnExactFairSpec)

/-- 'laws.FnExactFoldProg', WHERE WHAT IT READS IS OF BULK AT MOST 1048576: true; the input reads as it did. -/
def fnExactFoldProgUptoRow : OpenClaim := { program := "ytoijhndfkfliiaa", sum := "60753f5c3ab672dcc3b2af9e21734a825ddff2af92d88aadb815ffba2787245e", func := "loop.example/g00238/laws.FnExactFoldProg", spec := "fnExactFoldProg", unfollowed := true, recurses := true, apart := false, narrowed := true }
def FnExactFoldProgUptoSaid : Prop := fnExactFoldProgUptoRow.holds Try.pinned (OpenSpec.upto fnExactFoldProgSpec)

end Rows
end Go.Proofs.Ytoijhndfkfliiaa
