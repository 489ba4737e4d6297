/-
  No cell of these rows narrows 'for every input' (looked for: loops, veiled, ifaces, maps, wideKeys, modest, calm, conditions, laid).
  DERIVED. THE GIVEN ROWS OF THIS SEAT. 4 by the template 'for every input the law returns true; each argument reads behind the call as it read before'; 0 by the template 'total and deterministic' (their statements: YtejpklajfcngbaaTotals.lean).
  GIVEN WITH THE SEED: the statements are not yours to turn. If you find one false, say at which input.
  Laid BY PROGRAM, IN A SANDBOX (cutbox-rows.mjs): the forced cells as the released guide's own fill.sh prints them over the translation bfcff4e7af990c9f… (all of the seat's roots in one cut). By AI agents, Wed Nov 11 2026. No macro, syntax, notation, axiom, sorry.
-/
import Derived.Test.YtejpklajfcngbaaChecked
import GoSem.Claim
import GoSem.ClaimJoined
import GoSem.ClaimMapViews
import Derived.JoinedTies
import Derived.KernelRfl
namespace Go.Proofs.Ytejpklajfcngbaa
/- THE CELL 'sum', in the pinned program and in every row, IS THE sha256 OF THE DUMP (.gsa) THAT YtejpklajfcngbaaProg.lean LOADS. Nothing in Lean hashes anything: it is a label: what it is worth is what the hold of that sum in a sandbox is worth. -/
noncomputable def Try.pinned : Pinned := { name := "ytejpklajfcngbaa", sum := "bfcff4e7af990c9f93b3aeb405d8428eadcd6bcb425b3f873ebd43f6b07e02a5", checked := Try.checked }
namespace Rows
def none {H : Type} : Left H := { results := [], args := [] }

/-- 'laws.FnExactReadTree': WHATEVER THE INPUT: true; the input reads as it did. -/
def fnExactReadTreeSpec : ChangeSpec := { name := "fnExactReadTree", fn := fun _ => fun
  | [d1, d2] => { results := [.lit (.bool true)], args := [d1, d2] }
  | _ => none }
def fnExactReadTreeRow : OpenClaim := { program := "ytejpklajfcngbaa", sum := "bfcff4e7af990c9f93b3aeb405d8428eadcd6bcb425b3f873ebd43f6b07e02a5", func := "loop.example/g00758/laws.FnExactReadTree", spec := "fnExactReadTree", inPlace := ["internal/bytealg.IndexByteString"], unfollowed := true, recurses := true, apart := false }
def FnExactReadTreeSaid : Prop := fnExactReadTreeRow.holds Try.pinned (OpenSpec.ofChange fnExactReadTreeSpec)

/-- ITS FALSE NEIGHBOUR: 'it returns false'. Refute it at one input. -/
def fnExactReadTreeWrong : ChangeSpec := { name := "fnExactReadTree", fn := fun _ => fun
  | [d1, d2] => { results := [.lit (.bool false)], args := [d1, d2] }
  | _ => none }
def FnExactReadTreeWrongFalsely : Prop := fnExactReadTreeRow.holds Try.pinned (OpenSpec.ofChange fnExactReadTreeWrong)

/-- 'laws.FnSubsets': WHATEVER THE INPUT: true; the input reads as it did. -/
def fnSubsetsSpec : ChangeSpec := { name := "fnSubsets", fn := fun _ => fun
  | [d1, d2] => { results := [.lit (.bool true)], args := [d1, d2] }
  | _ => none }
def fnSubsetsRow : OpenClaim := { program := "ytejpklajfcngbaa", sum := "bfcff4e7af990c9f93b3aeb405d8428eadcd6bcb425b3f873ebd43f6b07e02a5", func := "loop.example/g00758/laws.FnSubsets", spec := "fnSubsets", unfollowed := true, recurses := true, apart := false }
def FnSubsetsSaid : Prop := fnSubsetsRow.holds Try.pinned (OpenSpec.ofChange fnSubsetsSpec)

/-- ITS FALSE NEIGHBOUR: 'it returns false'. Refute it at one input. -/
def fnSubsetsWrong : ChangeSpec := { name := "fnSubsets", fn := fun _ => fun
  | [d1, d2] => { results := [.lit (.bool false)], args := [d1, d2] }
  | _ => none }
def FnSubsetsWrongFalsely : Prop := fnSubsetsRow.holds Try.pinned (OpenSpec.ofChange fnSubsetsWrong)

/-- 'laws.FnExactClashesOf': WHATEVER THE INPUT: true; the input reads as it did. -/
def fnExactClashesOfSpec : ChangeSpec := { name := "fnExactClashesOf", fn := fun _ => fun
  | [d] => { results := [.lit (.bool true)], args := [d] }
  | _ => none }
def fnExactClashesOfRow : OpenClaim := { program := "ytejpklajfcngbaa", sum := "bfcff4e7af990c9f93b3aeb405d8428eadcd6bcb425b3f873ebd43f6b07e02a5", func := "loop.example/g00758/laws.FnExactClashesOf", spec := "fnExactClashesOf", unfollowed := true, recurses := true, apart := false }
def FnExactClashesOfSaid : Prop := fnExactClashesOfRow.holds Try.pinned (OpenSpec.ofChange fnExactClashesOfSpec)

/-- ITS FALSE NEIGHBOUR: 'it returns false'. Refute it at one input. -/
def fnExactClashesOfWrong : ChangeSpec := { name := "fnExactClashesOf", fn := fun _ => fun
  | [d] => { results := [.lit (.bool false)], args := [d] }
  | _ => none }
def FnExactClashesOfWrongFalsely : Prop := fnExactClashesOfRow.holds Try.pinned (OpenSpec.ofChange fnExactClashesOfWrong)

/-- 'laws.FnExactMachineOf': WHATEVER THE INPUT: true; the input reads as it did. -/
def fnExactMachineOfSpec : ChangeSpec := { name := "fnExactMachineOf", fn := fun _ => fun
  | [d] => { results := [.lit (.bool true)], args := [d] }
  | _ => none }
def fnExactMachineOfRow : OpenClaim := { program := "ytejpklajfcngbaa", sum := "bfcff4e7af990c9f93b3aeb405d8428eadcd6bcb425b3f873ebd43f6b07e02a5", func := "loop.example/g00758/laws.FnExactMachineOf", spec := "fnExactMachineOf", unfollowed := true, recurses := true, apart := false }
def FnExactMachineOfSaid : Prop := fnExactMachineOfRow.holds Try.pinned (OpenSpec.ofChange fnExactMachineOfSpec)

/-- ITS FALSE NEIGHBOUR: 'it returns false'. Refute it at one input. -/
def fnExactMachineOfWrong : ChangeSpec := { name := "fnExactMachineOf", fn := fun _ => fun
  | [d] => { results := [.lit (.bool false)], args := [d] }
  | _ => none }
def FnExactMachineOfWrongFalsely : Prop := fnExactMachineOfRow.holds Try.pinned (OpenSpec.ofChange fnExactMachineOfWrong)

/- THE SECOND FORM. 'bulk': how many values and letters a reading holds, each counted each time it is reached (what is shared counts as often as it is met; a slice's spare places count too). A statement '..UptoSaid' is the law's where the arguments, and the package variables that the reading takes, are together of bulk at most 1048576: NARROWER than '..Said'. Prove '..Said' where nothing that the law and all that it calls make is longer than what came in: it says more and counts as full. Else prove '..UptoSaid'. A law counts once. -/
mutual
def uptoBulk {H : Type} : DataW H → Nat
  | .lit (.string bytes) => bytes.length + 1
  | .lit _ => 1
  | .nil => 1
  | .ptr d => uptoBulk d + 1
  | .slice elems spare => uptoBulkAll elems + uptoBulkAll spare + 1
  | .agg parts => uptoBulkAll parts + 1
  | .iface _ d => uptoBulk d + 1
  | .map entries => uptoBulkEntries entries + 1
  | .held _ => 1
def uptoBulkAll {H : Type} : List (DataW H) → Nat
  | [] => 0
  | d :: r => uptoBulk d + uptoBulkAll r
def uptoBulkEntries {H : Type} : List (Lit × DataW H) → Nat
  | [] => 0
  | x :: r => uptoBulkEntry x + uptoBulkEntries r
def uptoBulkEntry {H : Type} : Lit × DataW H → Nat
  | (.string bytes, d) => bytes.length + uptoBulk d + 1
  | (_, d) => uptoBulk d + 1
 end
def uptoSmall : (H : Type) → List (DataW H) → Bool := fun _ ds => decide (uptoBulkAll ds ≤ 1048576)
def OpenSpec.upto (s : _root_.Go.ChangeSpec) : _root_.Go.OpenSpec := { _root_.Go.OpenSpec.ofChange s with cond := some uptoSmall }

/-- 'laws.FnExactReadTree', WHERE WHAT IT READS IS OF BULK AT MOST 1048576: true; the input reads as it did. -/
def fnExactReadTreeUptoRow : OpenClaim := { program := "ytejpklajfcngbaa", sum := "bfcff4e7af990c9f93b3aeb405d8428eadcd6bcb425b3f873ebd43f6b07e02a5", func := "loop.example/g00758/laws.FnExactReadTree", spec := "fnExactReadTree", inPlace := ["internal/bytealg.IndexByteString"], unfollowed := true, recurses := true, apart := false, narrowed := true }
def FnExactReadTreeUptoSaid : Prop := fnExactReadTreeUptoRow.holds Try.pinned (OpenSpec.upto fnExactReadTreeSpec)

/-- 'laws.FnSubsets', WHERE WHAT IT READS IS OF BULK AT MOST 1048576: true; the input reads as it did. -/
def fnSubsetsUptoRow : OpenClaim := { program := "ytejpklajfcngbaa", sum := "bfcff4e7af990c9f93b3aeb405d8428eadcd6bcb425b3f873ebd43f6b07e02a5", func := "loop.example/g00758/laws.FnSubsets", spec := "fnSubsets", unfollowed := true, recurses := true, apart := false, narrowed := true }
def FnSubsetsUptoSaid : Prop := fnSubsetsUptoRow.holds Try.pinned (OpenSpec.upto fnSubsetsSpec)

/-- 'laws.FnExactClashesOf', WHERE WHAT IT READS IS OF BULK AT MOST 1048576: true; the input reads as it did. -/
def fnExactClashesOfUptoRow : OpenClaim := { program := "ytejpklajfcngbaa", sum := "bfcff4e7af990c9f93b3aeb405d8428eadcd6bcb425b3f873ebd43f6b07e02a5", func := "loop.example/g00758/laws.FnExactClashesOf", spec := "fnExactClashesOf", unfollowed := true, recurses := true, apart := false, narrowed := true }
def FnExactClashesOfUptoSaid : Prop := fnExactClashesOfUptoRow.holds Try.pinned (OpenSpec.upto fnExactClashesOfSpec)

/-- 'laws.FnExactMachineOf', WHERE WHAT IT READS IS OF BULK AT MOST 1048576: true; the input reads as it did. -/
def fnExactMachineOfUptoRow : OpenClaim := { program := "ytejpklajfcngbaa", sum := "bfcff4e7af990c9f93b3aeb405d8428eadcd6bcb425b3f873ebd43f6b07e02a5", func := "loop.example/g00758/laws.FnExactMachineOf", spec := "fnExactMachineOf", unfollowed := true, recurses := true, apart := false, narrowed := true }
def FnExactMachineOfUptoSaid : Prop := fnExactMachineOfUptoRow.holds Try.pinned (OpenSpec.upto fnExactMachineOfSpec)

end Rows
end Go.Proofs.Ytejpklajfcngbaa
