/-
  No cell of these rows narrows 'for every input' (looked for: loops, veiled, ifaces, maps, wideKeys, modest, calm, conditions, laid).
  DERIVED. THE GIVEN ROWS OF THIS SEAT. 3 by the template 'for every input the law returns true; each argument reads behind the call as it read before'; 0 by the template 'total and deterministic' (their statements: YtfecojefbnnknaaGreatTotals.lean).
  GIVEN WITH THE SEED: the statements are not yours to turn. If you find one false, say at which input.
  Laid BY PROGRAM, IN A SANDBOX (cutbox-rows.mjs): the forced cells as the released guide's own fill.sh prints them over the translation 20fdd6754205ebb1… (all of the seat's roots in one cut). By AI agents, Wed Nov 11 2026. No macro, syntax, notation, axiom, sorry.
-/
import Derived.Test.YtfecojefbnnknaaGreatChecked
import GoSem.Claim
import GoSem.ClaimJoined
import GoSem.ClaimMapViews
import Derived.JoinedTies
import Derived.KernelRfl
namespace Go.Proofs.YtfecojefbnnknaaGreat
/- THE CELL 'sum', in the pinned program and in every row, IS THE sha256 OF THE DUMP (.gsa) THAT YtfecojefbnnknaaGreatProg.lean LOADS. Nothing in Lean hashes anything: it is a label: what it is worth is what the hold of that sum in a sandbox is worth. -/
noncomputable def Tryz.pinned : Pinned := { name := "ytfecojefbnnknaagreat", sum := "20fdd6754205ebb15eee89a62d2820bf71cb7dbb0fe94d5eadb4bd98b0d0400e", checked := Tryz.checked }
namespace Rows
def none {H : Type} : Left H := { results := [], args := [] }

/-- 'laws.FnTrimmed': WHATEVER THE INPUT: true; the input reads as it did. -/
def fnTrimmedSpec : ChangeSpec := { name := "fnTrimmed", fn := fun _ => fun
  | [d] => { results := [.lit (.bool true)], args := [d] }
  | _ => none }
def fnTrimmedRow : OpenClaim := { program := "ytfecojefbnnknaagreat", sum := "20fdd6754205ebb15eee89a62d2820bf71cb7dbb0fe94d5eadb4bd98b0d0400e", func := "loop.example/g00238/laws.FnTrimmed", spec := "fnTrimmed", unfollowed := true, recurses := true, apart := false }
def FnTrimmedSaid : Prop := fnTrimmedRow.holds Tryz.pinned (OpenSpec.ofChange fnTrimmedSpec)

/-- ITS FALSE NEIGHBOUR: 'it returns false'. Refute it at one input. -/
def fnTrimmedWrong : ChangeSpec := { name := "fnTrimmed", fn := fun _ => fun
  | [d] => { results := [.lit (.bool false)], args := [d] }
  | _ => none }
def FnTrimmedWrongFalsely : Prop := fnTrimmedRow.holds Tryz.pinned (OpenSpec.ofChange fnTrimmedWrong)

/-- 'laws.FnPackedRight': WHATEVER THE INPUT: true; the input reads as it did. -/
def fnPackedRightSpec : ChangeSpec := { name := "fnPackedRight", fn := fun _ => fun
  | [d] => { results := [.lit (.bool true)], args := [d] }
  | _ => none }
def fnPackedRightRow : OpenClaim := { program := "ytfecojefbnnknaagreat", sum := "20fdd6754205ebb15eee89a62d2820bf71cb7dbb0fe94d5eadb4bd98b0d0400e", func := "loop.example/g00238/laws.FnPackedRight", spec := "fnPackedRight", unfollowed := true, recurses := true, apart := false }
def FnPackedRightSaid : Prop := fnPackedRightRow.holds Tryz.pinned (OpenSpec.ofChange fnPackedRightSpec)

/-- ITS FALSE NEIGHBOUR: 'it returns false'. Refute it at one input. -/
def fnPackedRightWrong : ChangeSpec := { name := "fnPackedRight", fn := fun _ => fun
  | [d] => { results := [.lit (.bool false)], args := [d] }
  | _ => none }
def FnPackedRightWrongFalsely : Prop := fnPackedRightRow.holds Tryz.pinned (OpenSpec.ofChange fnPackedRightWrong)

/-- 'laws.FnExactSmaller': WHATEVER THE INPUT: true; the input reads as it did. -/
def fnExactSmallerSpec : ChangeSpec := { name := "fnExactSmaller", fn := fun _ => fun
  | [d] => { results := [.lit (.bool true)], args := [d] }
  | _ => none }
def fnExactSmallerRow : OpenClaim := { program := "ytfecojefbnnknaagreat", sum := "20fdd6754205ebb15eee89a62d2820bf71cb7dbb0fe94d5eadb4bd98b0d0400e", func := "loop.example/g00238/laws.FnExactSmaller", spec := "fnExactSmaller", unfollowed := true, recurses := true, apart := false }
def FnExactSmallerSaid : Prop := fnExactSmallerRow.holds Tryz.pinned (OpenSpec.ofChange fnExactSmallerSpec)

/-- ITS FALSE NEIGHBOUR: 'it returns false'. Refute it at one input. -/
def fnExactSmallerWrong : ChangeSpec := { name := "fnExactSmaller", fn := fun _ => fun
  | [d] => { results := [.lit (.bool false)], args := [d] }
  | _ => none }
def FnExactSmallerWrongFalsely : Prop := fnExactSmallerRow.holds Tryz.pinned (OpenSpec.ofChange fnExactSmallerWrong)

/- THE SECOND FORM. 'bulk': how many values and letters a reading holds, each counted each time it is reached (what is shared counts as often as it is met; a slice's spare places count too). A statement '..UptoSaid' is the law's where the arguments, and the package variables that the reading takes, are together of bulk at most 1048576: NARROWER than '..Said'. Prove '..Said' where nothing that the law and all that it calls make is longer than what came in: it says more and counts as full. Else prove '..UptoSaid'. A law counts once. -/
mutual
def uptoBulk {H : Type} : DataW H → Nat
  | .lit (.string bytes) => bytes.length + 1
  | .lit _ => 1
  | .nil => 1
  | .ptr d => uptoBulk d + 1
  | .slice elems spare => uptoBulkAll elems + uptoBulkAll spare + 1
  | .agg parts => uptoBulkAll parts + 1
  | .iface _ d => uptoBulk d + 1
  | .map entries => uptoBulkEntries entries + 1
  | .held _ => 1
def uptoBulkAll {H : Type} : List (DataW H) → Nat
  | [] => 0
  | d :: r => uptoBulk d + uptoBulkAll r
def uptoBulkEntries {H : Type} : List (Lit × DataW H) → Nat
  | [] => 0
  | x :: r => uptoBulkEntry x + uptoBulkEntries r
def uptoBulkEntry {H : Type} : Lit × DataW H → Nat
  | (.string bytes, d) => bytes.length + uptoBulk d + 1
  | (_, d) => uptoBulk d + 1
 end
def uptoSmall : (H : Type) → List (DataW H) → Bool := fun _ ds => decide (uptoBulkAll ds ≤ 1048576)
def OpenSpec.upto (s : _root_.Go.ChangeSpec) : _root_.Go.OpenSpec := { _root_.Go.OpenSpec.ofChange s with cond := some uptoSmall }

/-- 'laws.FnTrimmed', WHERE WHAT IT READS IS OF BULK AT MOST 1048576: true; the input reads as it did. -/
def fnTrimmedUptoRow : OpenClaim := { program := "ytfecojefbnnknaagreat", sum := "20fdd6754205ebb15eee89a62d2820bf71cb7dbb0fe94d5eadb4bd98b0d0400e", func := "loop.example/g00238/laws.FnTrimmed", spec := "fnTrimmed", unfollowed := true, recurses := true, apart := false, narrowed := true }
def FnTrimmedUptoSaid : Prop := fnTrimmedUptoRow.holds Tryz.pinned (OpenSpec.upto fnTrimmedSpec)

/-- 'laws.FnPackedRight', WHERE WHAT IT READS IS OF BULK AT MOST 1048576: true; the input reads as it did. -/
def fnPackedRightUptoRow : OpenClaim := { program := "ytfecojefbnnknaagreat", sum := "20fdd6754205ebb15eee89a62d2820bf71cb7dbb0fe94d5eadb4bd98b0d0400e", func := "loop.example/g00238/laws.FnPackedRight", spec := "fnPackedRight", unfollowed := true, recurses := true, apart := false, narrowed := true }
def FnPackedRightUptoSaid : Prop := fnPackedRightUptoRow.holds Tryz.pinned (OpenSpec.upto fnPackedRightSpec)

/-- 'laws.FnExactSmaller', WHERE WHAT IT READS IS OF BULK AT MOST 1048576: true; the input reads as it did. -/
def fnExactSmallerUptoRow : OpenClaim := { program := "ytfecojefbnnknaagreat", sum := "20fdd6754205ebb15eee89a62d2820bf71cb7dbb0fe94d5eadb4bd98b0d0400e", func := "loop.example/g00238/laws.FnExactSmaller", spec := "fnExactSmaller", unfollowed := true, recurses := true, apart := false, narrowed := true }
def FnExactSmallerUptoSaid : Prop := fnExactSmallerUptoRow.holds Tryz.pinned (OpenSpec.upto fnExactSmallerSpec)

end Rows
end Go.Proofs.YtfecojefbnnknaaGreat
