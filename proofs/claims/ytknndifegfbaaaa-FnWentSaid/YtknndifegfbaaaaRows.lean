/-
  No cell of these rows narrows 'for every input' (looked for: loops, veiled, ifaces, maps, wideKeys, modest, calm, conditions, laid).
  DERIVED. THE GIVEN ROWS OF THIS SEAT. 4 by the template 'for every input the law returns true; each argument reads behind the call as it read before'; 0 by the template 'total and deterministic' (their statements: YtknndifegfbaaaaTotals.lean).
  GIVEN WITH THE SEED: the statements are not yours to turn. If you find one false, say at which input.
  Laid BY PROGRAM, IN A SANDBOX (cutbox-rows.mjs): the forced cells as the released guide's own fill.sh prints them over the translation 1700ac30e72893ad… (all of the seat's roots in one cut). By AI agents, Wed Nov 11 2026. No macro, syntax, notation, axiom, sorry.
-/
import Derived.Test.YtknndifegfbaaaaChecked
import GoSem.Claim
import GoSem.ClaimJoined
import GoSem.ClaimMapViews
import Derived.JoinedTies
import Derived.KernelRfl
namespace Go.Proofs.Ytknndifegfbaaaa
/- THE CELL 'sum', in the pinned program and in every row, IS THE sha256 OF THE DUMP (.gsa) THAT YtknndifegfbaaaaProg.lean LOADS. Nothing in Lean hashes anything: it is a label: what it is worth is what the hold of that sum in a sandbox is worth. -/
noncomputable def Try.pinned : Pinned := { name := "ytknndifegfbaaaa", sum := "1700ac30e72893ad0aa50f769c0d367474422ef2787c07267c77cef0983167a5", checked := Try.checked }
namespace Rows
def none {H : Type} : Left H := { results := [], args := [] }

/-- 'laws.FnExactBegins': WHATEVER THE INPUT: true; the input reads as it did. -/
def fnExactBeginsSpec : ChangeSpec := { name := "fnExactBegins", fn := fun _ => fun
  | [d1, d2] => { results := [.lit (.bool true)], args := [d1, d2] }
  | _ => none }
def fnExactBeginsRow : OpenClaim := { program := "ytknndifegfbaaaa", sum := "1700ac30e72893ad0aa50f769c0d367474422ef2787c07267c77cef0983167a5", func := "loop.example/g00238/laws.FnExactBegins", spec := "fnExactBegins", apart := false }
def FnExactBeginsSaid : Prop := fnExactBeginsRow.holds Try.pinned (OpenSpec.ofChange fnExactBeginsSpec)

/-- ITS FALSE NEIGHBOUR: 'it returns false'. Refute it at one input. -/
def fnExactBeginsWrong : ChangeSpec := { name := "fnExactBegins", fn := fun _ => fun
  | [d1, d2] => { results := [.lit (.bool false)], args := [d1, d2] }
  | _ => none }
def FnExactBeginsWrongFalsely : Prop := fnExactBeginsRow.holds Try.pinned (OpenSpec.ofChange fnExactBeginsWrong)

/-- 'laws.FnExactHeld': WHATEVER THE INPUT: true; the input reads as it did. -/
def fnExactHeldSpec : ChangeSpec := { name := "fnExactHeld", fn := fun _ => fun
  | [d] => { results := [.lit (.bool true)], args := [d] }
  | _ => none }
def fnExactHeldRow : OpenClaim := { program := "ytknndifegfbaaaa", sum := "1700ac30e72893ad0aa50f769c0d367474422ef2787c07267c77cef0983167a5", func := "loop.example/g00238/laws.FnExactHeld", spec := "fnExactHeld", apart := false }
def FnExactHeldSaid : Prop := fnExactHeldRow.holds Try.pinned (OpenSpec.ofChange fnExactHeldSpec)

/-- ITS FALSE NEIGHBOUR: 'it returns false'. Refute it at one input. -/
def fnExactHeldWrong : ChangeSpec := { name := "fnExactHeld", fn := fun _ => fun
  | [d] => { results := [.lit (.bool false)], args := [d] }
  | _ => none }
def FnExactHeldWrongFalsely : Prop := fnExactHeldRow.holds Try.pinned (OpenSpec.ofChange fnExactHeldWrong)

/-- 'laws.FnWent': WHATEVER THE INPUT: true; the input reads as it did. -/
def fnWentSpec : ChangeSpec := { name := "fnWent", fn := fun _ => fun
  | [d] => { results := [.lit (.bool true)], args := [d] }
  | _ => none }
def fnWentRow : OpenClaim := { program := "ytknndifegfbaaaa", sum := "1700ac30e72893ad0aa50f769c0d367474422ef2787c07267c77cef0983167a5", func := "loop.example/g00238/laws.FnWent", spec := "fnWent", apart := false }
def FnWentSaid : Prop := fnWentRow.holds Try.pinned (OpenSpec.ofChange fnWentSpec)

/-- ITS FALSE NEIGHBOUR: 'it returns false'. Refute it at one input. -/
def fnWentWrong : ChangeSpec := { name := "fnWent", fn := fun _ => fun
  | [d] => { results := [.lit (.bool false)], args := [d] }
  | _ => none }
def FnWentWrongFalsely : Prop := fnWentRow.holds Try.pinned (OpenSpec.ofChange fnWentWrong)

/-- 'laws.FnExactWentOf': WHATEVER THE INPUT: true; the input reads as it did. -/
def fnExactWentOfSpec : ChangeSpec := { name := "fnExactWentOf", fn := fun _ => fun
  | [d1, d2] => { results := [.lit (.bool true)], args := [d1, d2] }
  | _ => none }
def fnExactWentOfRow : OpenClaim := { program := "ytknndifegfbaaaa", sum := "1700ac30e72893ad0aa50f769c0d367474422ef2787c07267c77cef0983167a5", func := "loop.example/g00238/laws.FnExactWentOf", spec := "fnExactWentOf", apart := false }
def FnExactWentOfSaid : Prop := fnExactWentOfRow.holds Try.pinned (OpenSpec.ofChange fnExactWentOfSpec)

/-- ITS FALSE NEIGHBOUR: 'it returns false'. Refute it at one input. -/
def fnExactWentOfWrong : ChangeSpec := { name := "fnExactWentOf", fn := fun _ => fun
  | [d1, d2] => { results := [.lit (.bool false)], args := [d1, d2] }
  | _ => none }
def FnExactWentOfWrongFalsely : Prop := fnExactWentOfRow.holds Try.pinned (OpenSpec.ofChange fnExactWentOfWrong)

/- THE SECOND FORM. 'bulk': how many values and letters a reading holds, each counted each time it is reached (what is shared counts as often as it is met; a slice's spare places count too). A statement '..UptoSaid' is the law's where the arguments, and the package variables that the reading takes, are together of bulk at most 1048576: NARROWER than '..Said'. Prove '..Said' where nothing that the law and all that it calls make is longer than what came in: it says more and counts as full. Else prove '..UptoSaid'. A law counts once. -/
mutual
def uptoBulk {H : Type} : DataW H → Nat
  | .lit (.string bytes) => bytes.length + 1
  | .lit _ => 1
  | .nil => 1
  | .ptr d => uptoBulk d + 1
  | .slice elems spare => uptoBulkAll elems + uptoBulkAll spare + 1
  | .agg parts => uptoBulkAll parts + 1
  | .iface _ d => uptoBulk d + 1
  | .map entries => uptoBulkEntries entries + 1
  | .held _ => 1
def uptoBulkAll {H : Type} : List (DataW H) → Nat
  | [] => 0
  | d :: r => uptoBulk d + uptoBulkAll r
def uptoBulkEntries {H : Type} : List (Lit × DataW H) → Nat
  | [] => 0
  | x :: r => uptoBulkEntry x + uptoBulkEntries r
def uptoBulkEntry {H : Type} : Lit × DataW H → Nat
  | (.string bytes, d) => bytes.length + uptoBulk d + 1
  | (_, d) => uptoBulk d + 1
 end
def uptoSmall : (H : Type) → List (DataW H) → Bool := fun _ ds => decide (uptoBulkAll ds ≤ 1048576)
def OpenSpec.upto (s : _root_.Go.ChangeSpec) : _root_.Go.OpenSpec := { _root_.Go.OpenSpec.ofChange s with cond := some uptoSmall }

/-- 'laws.FnExactBegins', WHERE WHAT IT READS IS OF BULK AT MOST 1048576: true; the input reads as it did. -/
def fnExactBeginsUptoRow : OpenClaim := { program := "ytknndifegfbaaaa", sum := "1700ac30e72893ad0aa50f769c0d367474422ef2787c07267c77cef0983167a5", func := "loop.example/g00238/laws.FnExactBegins", spec := "fnExactBegins", apart := false, narrowed := true }
def FnExactBeginsUptoSaid : Prop := fnExactBeginsUptoRow.holds Try.pinned (OpenSpec.upto fnExactBeginsSpec)

/-- 'laws.FnExactHeld', WHERE WHAT IT READS IS OF BULK AT MOST 1048576: true; the input reads as it did. -/
def fnExactHeldUptoRow : OpenClaim := { program := "ytknndifegfbaaaa", sum := "1700ac30e72893ad0aa50f769c0d367474422ef2787c07267c77cef0983167a5", func := "loop.example/g00238/laws.FnExactHeld", spec := "fnExactHeld", apart := false, narrowed := true }
def FnExactHeldUptoSaid : Prop := fnExactHeldUptoRow.holds Try.pinned (OpenSpec.upto fnExactHeldSpec)

/-- 'laws.FnWent', WHERE WHAT IT READS IS OF BULK AT MOST 1048576: true; the input reads as it did. -/
def fnWentUptoRow : OpenClaim := { program := "ytknndifegfbaaaa", sum := "1700ac30e72893ad0aa50f769c0d367474422ef2787c07267c77cef0983167a5", func := "loop.example/g00238/laws.FnWent", spec := "fnWent", apart := false, narrowed := true }
def FnWentUptoSaid : Prop := fnWentUptoRow.holds Try.pinned (OpenSpec.upto fnWentSpec)

/-- 'laws.FnExactWentOf', WHERE WHAT IT READS IS OF BULK AT MOST 1048576: true; the input reads as it did. -/
def fnExactWentOfUptoRow : OpenClaim := { program := "ytknndifegfbaaaa", sum := "1700ac30e72893ad0aa50f769c0d367474422ef2787c07267c77cef0983167a5", func := "loop.example/g00238/laws.FnExactWentOf", spec := "fnExactWentOf", apart := false, narrowed := true }
def FnExactWentOfUptoSaid : Prop := fnExactWentOfUptoRow.holds Try.pinned (OpenSpec.upto fnExactWentOfSpec)

end Rows
end Go.Proofs.Ytknndifegfbaaaa
