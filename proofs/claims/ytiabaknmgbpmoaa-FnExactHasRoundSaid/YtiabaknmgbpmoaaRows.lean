/-
  No cell of these rows narrows 'for every input' (looked for: loops, veiled, ifaces, maps, wideKeys, modest, calm, conditions, laid).
  DERIVED. THE GIVEN ROWS OF THIS SEAT. 5 by the template 'for every input the law returns true; each argument reads behind the call as it read before'; 0 by the template 'total and deterministic' (their statements: YtiabaknmgbpmoaaTotals.lean).
  GIVEN WITH THE SEED: the statements are not yours to turn. If you find one false, say at which input.
  Laid BY PROGRAM, IN A SANDBOX (cutbox-rows.mjs): the forced cells as the released guide's own fill.sh prints them over the translation 954ccbcea90ba795… (all of the seat's roots in one cut). By AI agents, Wed Nov 11 2026. No macro, syntax, notation, axiom, sorry.
-/
import Derived.Test.YtiabaknmgbpmoaaChecked
import GoSem.Claim
import GoSem.ClaimJoined
import GoSem.ClaimMapViews
import Derived.JoinedTies
import Derived.KernelRfl
namespace Go.Proofs.Ytiabaknmgbpmoaa
/- THE CELL 'sum', in the pinned program and in every row, IS THE sha256 OF THE DUMP (.gsa) THAT YtiabaknmgbpmoaaProg.lean LOADS. Nothing in Lean hashes anything: it is a label: what it is worth is what the hold of that sum in a sandbox is worth. -/
noncomputable def Try.pinned : Pinned := { name := "ytiabaknmgbpmoaa", sum := "954ccbcea90ba7953d7fba4991decf37c0dbeaaa8ed9ca8cc9013e4b49250217", checked := Try.checked }
namespace Rows
def none {H : Type} : Left H := { results := [], args := [] }

/-- 'laws.FnExactFirstOf': WHATEVER THE INPUT: true; the input reads as it did. -/
def fnExactFirstOfSpec : ChangeSpec := { name := "fnExactFirstOf", fn := fun _ => fun
  | [d1, d2] => { results := [.lit (.bool true)], args := [d1, d2] }
  | _ => none }
def fnExactFirstOfRow : OpenClaim := { program := "ytiabaknmgbpmoaa", sum := "954ccbcea90ba7953d7fba4991decf37c0dbeaaa8ed9ca8cc9013e4b49250217", func := "loop.example/g00758/laws.FnExactFirstOf", spec := "fnExactFirstOf", unfollowed := true, recurses := true, apart := false }
def FnExactFirstOfSaid : Prop := fnExactFirstOfRow.holds Try.pinned (OpenSpec.ofChange fnExactFirstOfSpec)

/-- ITS FALSE NEIGHBOUR: 'it returns false'. Refute it at one input. -/
def fnExactFirstOfWrong : ChangeSpec := { name := "fnExactFirstOf", fn := fun _ => fun
  | [d1, d2] => { results := [.lit (.bool false)], args := [d1, d2] }
  | _ => none }
def FnExactFirstOfWrongFalsely : Prop := fnExactFirstOfRow.holds Try.pinned (OpenSpec.ofChange fnExactFirstOfWrong)

/-- 'laws.FnExactFollowOf': WHATEVER THE INPUT: true; the input reads as it did. -/
def fnExactFollowOfSpec : ChangeSpec := { name := "fnExactFollowOf", fn := fun _ => fun
  | [d1, d2] => { results := [.lit (.bool true)], args := [d1, d2] }
  | _ => none }
def fnExactFollowOfRow : OpenClaim := { program := "ytiabaknmgbpmoaa", sum := "954ccbcea90ba7953d7fba4991decf37c0dbeaaa8ed9ca8cc9013e4b49250217", func := "loop.example/g00758/laws.FnExactFollowOf", spec := "fnExactFollowOf", unfollowed := true, recurses := true, apart := false }
def FnExactFollowOfSaid : Prop := fnExactFollowOfRow.holds Try.pinned (OpenSpec.ofChange fnExactFollowOfSpec)

/-- ITS FALSE NEIGHBOUR: 'it returns false'. Refute it at one input. -/
def fnExactFollowOfWrong : ChangeSpec := { name := "fnExactFollowOf", fn := fun _ => fun
  | [d1, d2] => { results := [.lit (.bool false)], args := [d1, d2] }
  | _ => none }
def FnExactFollowOfWrongFalsely : Prop := fnExactFollowOfRow.holds Try.pinned (OpenSpec.ofChange fnExactFollowOfWrong)

/-- 'laws.FnExactHasRound': WHATEVER THE INPUT: true; the input reads as it did. -/
def fnExactHasRoundSpec : ChangeSpec := { name := "fnExactHasRound", fn := fun _ => fun
  | [d1, d2] => { results := [.lit (.bool true)], args := [d1, d2] }
  | _ => none }
def fnExactHasRoundRow : OpenClaim := { program := "ytiabaknmgbpmoaa", sum := "954ccbcea90ba7953d7fba4991decf37c0dbeaaa8ed9ca8cc9013e4b49250217", func := "loop.example/g00758/laws.FnExactHasRound", spec := "fnExactHasRound", unfollowed := true, recurses := true, apart := false }
def FnExactHasRoundSaid : Prop := fnExactHasRoundRow.holds Try.pinned (OpenSpec.ofChange fnExactHasRoundSpec)

/-- ITS FALSE NEIGHBOUR: 'it returns false'. Refute it at one input. -/
def fnExactHasRoundWrong : ChangeSpec := { name := "fnExactHasRound", fn := fun _ => fun
  | [d1, d2] => { results := [.lit (.bool false)], args := [d1, d2] }
  | _ => none }
def FnExactHasRoundWrongFalsely : Prop := fnExactHasRoundRow.holds Try.pinned (OpenSpec.ofChange fnExactHasRoundWrong)

/-- 'laws.FnExactSetsOf': WHATEVER THE INPUT: true; the input reads as it did. -/
def fnExactSetsOfSpec : ChangeSpec := { name := "fnExactSetsOf", fn := fun _ => fun
  | [d] => { results := [.lit (.bool true)], args := [d] }
  | _ => none }
def fnExactSetsOfRow : OpenClaim := { program := "ytiabaknmgbpmoaa", sum := "954ccbcea90ba7953d7fba4991decf37c0dbeaaa8ed9ca8cc9013e4b49250217", func := "loop.example/g00758/laws.FnExactSetsOf", spec := "fnExactSetsOf", unfollowed := true, recurses := true, apart := false }
def FnExactSetsOfSaid : Prop := fnExactSetsOfRow.holds Try.pinned (OpenSpec.ofChange fnExactSetsOfSpec)

/-- ITS FALSE NEIGHBOUR: 'it returns false'. Refute it at one input. -/
def fnExactSetsOfWrong : ChangeSpec := { name := "fnExactSetsOf", fn := fun _ => fun
  | [d] => { results := [.lit (.bool false)], args := [d] }
  | _ => none }
def FnExactSetsOfWrongFalsely : Prop := fnExactSetsOfRow.holds Try.pinned (OpenSpec.ofChange fnExactSetsOfWrong)

/-- 'laws.FnExactLeastStates': WHATEVER THE INPUT: true; the input reads as it did. -/
def fnExactLeastStatesSpec : ChangeSpec := { name := "fnExactLeastStates", fn := fun _ => fun
  | [d] => { results := [.lit (.bool true)], args := [d] }
  | _ => none }
def fnExactLeastStatesRow : OpenClaim := { program := "ytiabaknmgbpmoaa", sum := "954ccbcea90ba7953d7fba4991decf37c0dbeaaa8ed9ca8cc9013e4b49250217", func := "loop.example/g00758/laws.FnExactLeastStates", spec := "fnExactLeastStates", unfollowed := true, recurses := true, apart := false }
def FnExactLeastStatesSaid : Prop := fnExactLeastStatesRow.holds Try.pinned (OpenSpec.ofChange fnExactLeastStatesSpec)

/-- ITS FALSE NEIGHBOUR: 'it returns false'. Refute it at one input. -/
def fnExactLeastStatesWrong : ChangeSpec := { name := "fnExactLeastStates", fn := fun _ => fun
  | [d] => { results := [.lit (.bool false)], args := [d] }
  | _ => none }
def FnExactLeastStatesWrongFalsely : Prop := fnExactLeastStatesRow.holds Try.pinned (OpenSpec.ofChange fnExactLeastStatesWrong)

/- THE SECOND FORM. 'bulk': how many values and letters a reading holds, each counted each time it is reached (what is shared counts as often as it is met; a slice's spare places count too). A statement '..UptoSaid' is the law's where the arguments, and the package variables that the reading takes, are together of bulk at most 1048576: NARROWER than '..Said'. Prove '..Said' where nothing that the law and all that it calls make is longer than what came in: it says more and counts as full. Else prove '..UptoSaid'. A law counts once. -/
mutual
def uptoBulk {H : Type} : DataW H → Nat
  | .lit (.string bytes) => bytes.length + 1
  | .lit _ => 1
  | .nil => 1
  | .ptr d => uptoBulk d + 1
  | .slice elems spare => uptoBulkAll elems + uptoBulkAll spare + 1
  | .agg parts => uptoBulkAll parts + 1
  | .iface _ d => uptoBulk d + 1
  | .map entries => uptoBulkEntries entries + 1
  | .held _ => 1
def uptoBulkAll {H : Type} : List (DataW H) → Nat
  | [] => 0
  | d :: r => uptoBulk d + uptoBulkAll r
def uptoBulkEntries {H : Type} : List (Lit × DataW H) → Nat
  | [] => 0
  | x :: r => uptoBulkEntry x + uptoBulkEntries r
def uptoBulkEntry {H : Type} : Lit × DataW H → Nat
  | (.string bytes, d) => bytes.length + uptoBulk d + 1
  | (_, d) => uptoBulk d + 1
 end
def uptoSmall : (H : Type) → List (DataW H) → Bool := fun _ ds => decide (uptoBulkAll ds ≤ 1048576)
def OpenSpec.upto (s : _root_.Go.ChangeSpec) : _root_.Go.OpenSpec := { _root_.Go.OpenSpec.ofChange s with cond := some uptoSmall }

/-- 'laws.FnExactFirstOf', WHERE WHAT IT READS IS OF BULK AT MOST 1048576: true; the input reads as it did. -/
def fnExactFirstOfUptoRow : OpenClaim := { program := "ytiabaknmgbpmoaa", sum := "954ccbcea90ba7953d7fba4991decf37c0dbeaaa8ed9ca8cc9013e4b49250217", func := "loop.example/g00758/laws.FnExactFirstOf", spec := "fnExactFirstOf", unfollowed := true, recurses := true, apart := false, narrowed := true }
def FnExactFirstOfUptoSaid : Prop := fnExactFirstOfUptoRow.holds Try.pinned (OpenSpec.upto fnExactFirstOfSpec)

/-- 'laws.FnExactFollowOf', WHERE WHAT IT READS IS OF BULK AT MOST 1048576: true; the input reads as it did. -/
def fnExactFollowOfUptoRow : OpenClaim := { program := "ytiabaknmgbpmoaa", sum := "954ccbcea90ba7953d7fba4991decf37c0dbeaaa8ed9ca8cc9013e4b49250217", func := "loop.example/g00758/laws.FnExactFollowOf", spec := "fnExactFollowOf", unfollowed := true, recurses := true, apart := false, narrowed := true }
def FnExactFollowOfUptoSaid : Prop := fnExactFollowOfUptoRow.holds Try.pinned (OpenSpec.upto fnExactFollowOfSpec)

/-- 'laws.FnExactHasRound', WHERE WHAT IT READS IS OF BULK AT MOST 1048576: true; the input reads as it did. -/
def fnExactHasRoundUptoRow : OpenClaim := { program := "ytiabaknmgbpmoaa", sum := "954ccbcea90ba7953d7fba4991decf37c0dbeaaa8ed9ca8cc9013e4b49250217", func := "loop.example/g00758/laws.FnExactHasRound", spec := "fnExactHasRound", unfollowed := true, recurses := true, apart := false, narrowed := true }
def FnExactHasRoundUptoSaid : Prop := fnExactHasRoundUptoRow.holds Try.pinned (OpenSpec.upto fnExactHasRoundSpec)

/-- 'laws.FnExactSetsOf', WHERE WHAT IT READS IS OF BULK AT MOST 1048576: true; the input reads as it did. -/
def fnExactSetsOfUptoRow : OpenClaim := { program := "ytiabaknmgbpmoaa", sum := "954ccbcea90ba7953d7fba4991decf37c0dbeaaa8ed9ca8cc9013e4b49250217", func := "loop.example/g00758/laws.FnExactSetsOf", spec := "fnExactSetsOf", unfollowed := true, recurses := true, apart := false, narrowed := true }
def FnExactSetsOfUptoSaid : Prop := fnExactSetsOfUptoRow.holds Try.pinned (OpenSpec.upto fnExactSetsOfSpec)

/-- 'laws.FnExactLeastStates', WHERE WHAT IT READS IS OF BULK AT MOST 1048576: true; the input reads as it did. -/
def fnExactLeastStatesUptoRow : OpenClaim := { program := "ytiabaknmgbpmoaa", sum := "954ccbcea90ba7953d7fba4991decf37c0dbeaaa8ed9ca8cc9013e4b49250217", func := "loop.example/g00758/laws.FnExactLeastStates", spec := "fnExactLeastStates", unfollowed := true, recurses := true, apart := false, narrowed := true }
def FnExactLeastStatesUptoSaid : Prop := fnExactLeastStatesUptoRow.holds Try.pinned (OpenSpec.upto fnExactLeastStatesSpec)

end Rows
end Go.Proofs.Ytiabaknmgbpmoaa
